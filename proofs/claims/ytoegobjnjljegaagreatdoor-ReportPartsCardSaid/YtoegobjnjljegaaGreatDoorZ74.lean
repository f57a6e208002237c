/-
  The document's sum of values.
-/
import Derived.Test.YtoegobjnjljegaaGreatDoorZ37
set_option maxRecDepth 100000
set_option maxHeartbeats 3200000
namespace Go.Proofs.YtoegobjnjljegaaGreatDoor
open Go.RowKit Go.Gk
theorem z91 {w:World} {v:Value} {l:List Vl} (hl:zae zzb 2 (fun _=>True) w v l) (hn:l.length≤100000):
 Calls Tryz.prog 89 #[v] w fun x w'=>x=.returned (iV (zzy 0 l))∧w'=w:=by
 obtain⟨A,c,rfl,hc1,hc2⟩:=hl.form;have HF:=Lib.hid (show zzy 0 l=zzy 0 l from rfl)
 obtain⟨R,hR⟩:∃R,zzy 0 l=R:=⟨_,rfl⟩
 rw[hR];have HR:=Lib.hid hR;clear hR HF;go_enter Tryz.func89,Tryz.ntmps89;go_wp2_with fail;go_loopw [3] (fun i wr=>∃j:Nat,j≤l.length∧i=.int .i64 j∧w=wr∧zzy 0 (l.take j)=0) (fun i _=>l.length-(intOf i).toNat)
 case atStart=>exact⟨0,Nat.zero_le _,rfl,rfl,rfl⟩
 case round=>
  obtain⟨j,hj,rfl,rfl,hx⟩:=hrel;have HX:=Lib.hid hx;clear hx;by_cases hlt:j<l.length
  ·have hlt':(j:Int)<(l.length:Int):=by omega
   have hj0:=znn j;obtain⟨g,o,rfl⟩:=hl.head (by omega);obtain⟨q0,q1⟩:=Row.two hl zyt hlt rfl;have HS:=Lib.hid (show zzy 0 (l.take (j+1))=l[j].2 by rw[List.take_succ_eq_append_getElem hlt,z4x,HX.out,if_pos rfl]);have HD:=Lib.hid (show l=l.take (j+1)++l.drop (j+1)from(List.take_append_drop _ _).symm);clear hl;generalize l[j]=x at *;obtain⟨x1,x2⟩:=x;simp only at q0 q1 HS;by_cases h0:x2=0
   ·subst h0;go_wp2;go_roundw
    case rel=>exact⟨j+1,by omega,by go_num,by trivial,HS.out⟩
    case measure=>simp[intOf];omega
   ·have hb:(x2 !=0)=true:=by simpa using h0
    have HRR:=Lib.hid (show x2=R by
     have h9:=HR.out;rw[HD.out,z82,HS.out,z1x h0]at h9
     exact h9)
    clear HS HD HX h0 HR;go_wp2;(try simp only[Exit.inBlock,Exit.then]);(try rw[Exit.noGoto_ret]);go_ret;rw[HRR.out];exact⟨rfl,rfl⟩
  ·obtain rfl:j=l.length:=by omega
   have hx:=HX.out;rw[List.take_length]at hx;have HRR:=Lib.hid (show(0:Int)=R from hx.symm.trans HR.out);clear HX hx HR;go_wp2;go_ret;rw[HRR.out];exact⟨rfl,rfl⟩
theorem z9s {w:World} {v:Value} {l:List Vl} (hl:zae zzb 2 (fun _=>True) w v l) (hn:l.length≤100000):
 Calls Tryz.prog 91 #[v] w fun x w'=>∃u,x=.returned u∧Outs zby 1 3 w w' u (l.map (·.1)):=by
 obtain⟨A,c,rfl,hc1,hc2⟩:=hl.form;go_enter Tryz.func91,Tryz.ntmps91;go_wp2_with fail;go_loopw [3,4] (fun out i wr=>∃(j:Nat) (xs:List Int),j≤l.length∧i=.int .i64 j∧(l.take j).map (·.1)=xs∧Outs zby 1 3 w wr out xs) (fun _ i _=>l.length-(intOf i).toNat)
 case atStart=>exact⟨0,[],Nat.zero_le _,rfl,rfl,Outs.start _ _ _ (Tch.refl _ _)⟩
 case round=>
  obtain⟨j,xs,hj,rfl,hx,hO⟩:=hrel;obtain⟨O,co,rfl,ho1,ho2⟩:=hO.form;have HX:=Lib.hid hx;have hxl:xs.length≤j:=by rw[←hx,List.length_map,List.length_take];omega
  clear hx;by_cases hlt:j<l.length
  ·have hlt':(j:Int)<(l.length:Int):=by omega
   have hj0:=znn j;have hl9:=hl.keep hO.tch;obtain⟨g,o,rfl⟩:=hl9.head (by omega);obtain⟨q0,q1⟩:=Row.two hl9 zyt hlt rfl;have HS:=Lib.hid (show(l.take (j+1)).map (·.1)=xs++[l[j].1] by rw[←HX.out,List.take_succ_eq_append_getElem hlt,List.map_append];rfl);clear hl hl9 HX q1;generalize l[j]=x at *;obtain⟨x1,x2⟩:=x;simp only at q0 HS;go_wp2_with (at_builtin;refine apd zaj (hO.own.alloc _) (Go.Gk.Src.one (news:=[iV (x1)]) rfl (fun m9 u9 hu9=>by rw[(Blk.new (wr) 3 #[iV (x1)]).cell m9];simpa using hu9)) (by simp;rfl) ?_;intro v2 w2 ho2 hg2 hl2;have hO2:=hO.step (x:=x1) (Tch.alloc _ _ _) ho2 hg2 hl2;obtain⟨O2,co2,rfl,_,_⟩:=zac ho2);go_roundw
   case rel=>exact⟨j+1,xs++[x1],by omega,by go_num,HS.out,by simpa using hO2⟩
   case measure=>simp[intOf];omega
  ·obtain rfl:j=l.length:=by omega
   have hx:=HX.out;rw[List.take_length]at hx;have HXX:=Lib.hid hx;clear hx HX;go_wp2;go_ret;rw[HXX.out];exact⟨_,rfl,hO⟩
theorem z97 (n e:Int) (w:World):
 Calls Tryz.prog 92 #[iV n,iV e] w fun x w'=>x=.returned (vlV (if e≠0 then(0,e)else(n,0)))∧Tf w w':=by
 unfold vlV;by_cases he:e=0
 ·subst he;rw[if_neg (by decide)];go_enter Tryz.func92,Tryz.ntmps92;go_wp2;refine zfe (Blk.new w 41 _) ?_;exact⟨rfl,Tch.alloc _ _ _⟩
 ·have he':(e !=0)=true:=by simpa using he
  rw[if_pos he];clear he;go_enter Tryz.func92,Tryz.ntmps92;go_wp2;(try simp only[Exit.inBlock,Exit.then]);(try rw[Exit.noGoto_ret]);refine zfe (Blk.new w 41 _) ?_;exact⟨rfl,Tch.alloc _ _ _⟩
open Go.RowKit Go.Gk
theorem told28_t2 (x:Int) (w:World):Calls Tryz.prog 92 #[iV (zda x).1,iV (zda x).2] w fun y w'=>y=.returned (vlV (zda x))∧Tf w w':=by
 have h:=z97 (zda x).1 (zda x).2 w;rw[z1f]at h;exact h
theorem net28_any {w:World} {u v:Value} {p m:List Vl} (hp:zae zzb 2 (fun _=>True) w u p) (hm:zae zzb 2 (fun _=>True) w v m) (p64:∀x∈p,zz0 x) (m64:∀x∈m,zz0 x) (np:p.length≤5000) (nm:m.length≤5000):
 Calls Tryz.prog 38 #[u,v] w fun x w'=>x=.returned (vlV (zy4 p m))∧Tf w w':=by
 have ta:=tal w (.cells #[iV 0,iV 0] 41);have tb:=tal (w.alloc (.cells #[iV 0,iV 0] 41)) (.cells #[] 41);have hv:=Blk.new w 41 #[iV 0,iV 0]
 have h0:Outs zzb 2 41 (w.alloc (.cells #[iV 0,iV 0] 41)) ((w.alloc (.cells #[iV 0,iV 0] 41)).alloc (.cells #[] 41)) (.slice (some ⟨w.heap.size+1,0,none⟩) 0 0) []:=
  ⟨by simpa using z0z (size:=2) (n:=0) (base:=w.heap.size+1) (Blk.new2 w (.cells #[iV 0,iV 0] 41) 41 #[]) (Nat.le_refl _) (by rfl) (by decide),tb⟩
 have HPK:=Lib.hid (fun w' (t9:Tf w w')=>hp.keep t9);have HMK:=Lib.hid (fun w' (t9:Tf w w')=>hm.keep t9);obtain⟨A,c,rfl,_,_⟩:=hp.form;obtain⟨A',c',rfl,_,_⟩:=hm.form;have hp0:=HPK.out _ (ta.trans tb);have P64:=Lib.hid (show zwa (p.map (·.1))from fun x hx=>by obtain⟨y,hy,rfl⟩:=List.mem_map.1 hx;exact p64 y hy);have M64:=Lib.hid (show zwa (m.map (·.1))from fun x hx=>by obtain⟨y,hy,rfl⟩:=List.mem_map.1 hx;exact m64 y hy);have hN0:zzy 0 (p++m)=0→zy4 p m=zda ((p.map (·.1)).sum-(m.map (·.1)).sum):=fun h=>by unfold zy4;rw[if_pos h]
 have hN1:zzy 0 (p++m)≠0→zy4 p m=(0,zzy 0 (p++m)):=fun h=>by unfold zy4;rw[if_neg h]
 obtain⟨S,hS⟩:∃S,S=(p.map (·.1)).sum-(m.map (·.1)).sum:=⟨_,rfl⟩
 have HSS:=Lib.hid hS;rw[←hS]at hN0;clear hS;generalize zy4 p m=NV at *;have HN0:=Lib.hid hN0;have HN1:=Lib.hid hN1;have hsz:(w.alloc (.cells #[iV 0,iV 0] 41)).heap.size=w.heap.size+1:=by simp
 clear hp hm p64 m64 hN0 hN1;go_enter Tryz.func38,Tryz.ntmps38;go_wp2_with (at_builtin;refine Hid.out ?_);refine Lib.hid ?_;generalize(w.alloc (.cells #[iV 0,iV 0] 41)).alloc (.cells #[] 41)=W at *;generalize w.alloc (.cells #[iV 0,iV 0] 41)=W1 at *;generalize hzw:w.heap.size=z at *;have HZW:=Lib.hid hzw;clear hzw;refine zat _ rfl _ _ 89 rfl zz2 (zb8 h0.own) (by rfl) hp0.src (by rfl) (z1r p) (by simp only[List.length_nil];unfold maxLen;omega) (by simp only[List.length_nil];omega) ?_;intro v1 w1 ho1 hg1 hl1;have h1:=h0.more (Tch.refl _ _) ho1 hg1 hl1;rw[List.nil_append]at h1;obtain⟨V1,k1,rfl,_,_⟩:=h1.form;have hm1:=HMK.out _ (ta.trans h1.tch);clear h0 ho1 hg1 hl1 hp0;go_wp2_with (at_builtin;refine Hid.out ?_);refine Lib.hid ?_;refine apd zz2 h1.own hm1.src (z1r m) ?_;intro v2 w2 ho2 hg2 hl2;have h2:=h1.more (Tch.refl _ _) ho2 hg2 hl2;obtain⟨V2,k2,rfl,_,_⟩:=h2.form;have T2:=ta.trans h2.tch;have hv2:=hv.keep h2.tch id;have HFA:=Lib.hid (z91 h2.row (by rw[List.length_append];omega));rw[List.length_append]at HFA;have ha1:=Lib.hid (fun w' (t9:Tf w w')=>z9s (HPK.out w' t9) (by omega));have ha2:=Lib.hid (fun w' (t9:Tf w w')=>z9s (HMK.out w' t9) (by omega));generalize zzy 0 (p++m)=fe at *;clear h1 h2 ho2 hg2 hl2 hm1 hv tb ta hsz;go_wp2_with fail;refine HFA.out.mono ?_;rintro _ w3 ⟨rfl,rfl⟩;clear HFA;by_cases h0:fe=0
 ·have HR:=Lib.hid (HN0.out h0);have hT:=Lib.hid (fun w'=>told28_t2 S w');subst h0;have HA1:=Lib.hid (ha1.out _ T2);clear HN0 HN1 ha1;go_wp2_with fail;refine HA1.out.mono ?_;rintro _ w4 ⟨u1,rfl,hO1⟩;have r1:=hO1.row;have T4:=T2.trans hO1.tch;have hv4:=hv2.keep hO1.tch id;obtain⟨U1,k3,hu1,_,_⟩:=hO1.form;rw[List.length_map]at hu1;subst hu1;have HA2:=Lib.hid (ha2.out _ T4);clear HA1 ha2 hv2 T2 hO1;go_wp2_with fail;refine HA2.out.mono ?_;rintro _ w5 ⟨u2,rfl,hO2⟩;have r2:=hO2.row;have r1:=r1.keep hO2.tch;have T5:=T4.trans hO2.tch;have hv5:=hv4.keep hO2.tch id;obtain⟨U2,k4,hu2,_,_⟩:=hO2.form;rw[List.length_map]at hu2;subst hu2;have hN:=Lib.hid (net_any r1 r2 P64.out M64.out (by rw[List.length_map];omega) (by rw[List.length_map];omega));rw[←HSS.out,z4e]at hN;generalize zda S=R at *;obtain⟨R1,R2⟩:=R;simp only at hN;clear HA2 r1 r2 hv4 T4 hO2;go_wp2_with fail;refine hN.out.mono ?_;rintro _ w6 ⟨rfl,t6⟩;have hv6:=hv5.keep t6 id;have T6:=T5.trans t6;clear hN hv5 T5;go_wp2_with fail;refine(hT.out w6).mono ?_;rintro _ w7 ⟨rfl,t7⟩;have hv7:=hv6.keep t7 id;have T7:=Lib.hid (T6.trans t7);unfold vlV;simp only;clear hT hv6 t6 t7 T6;go_wp2_with (refine stH z #[iV R1,iV R2] hv7 ?_);intro w9 HBF HTF;clear hv7;go_wp2;(try simp only[exS]);refine zfe HBF.out ?_;rw[HR.out];exact⟨rfl,T7.out.trans' (F':=fun g=>g=z) HTF.out (fun i hi=>.inr (by have hi:i=z:=hi;have:=HZW.out;omega))⟩
 ·have HR:=Lib.hid (HN1.out h0);have h0':(fe !=0)=true:=by simpa using h0
  have T3:=Lib.hid T2;clear HN0 HN1 h0 ha1 ha2 T2;go_wp2_with (refine stH z #[iV 0,iV fe] hv2 ?_);intro w9 HBF HTF;clear hv2;go_wp2;(try simp only[exS]);refine zfe HBF.out ?_;rw[HR.out];exact⟨rfl,T3.out.trans' (F':=fun g=>g=z) HTF.out (fun i hi=>.inr (by have hi:i=z:=hi;have:=HZW.out;omega))⟩
