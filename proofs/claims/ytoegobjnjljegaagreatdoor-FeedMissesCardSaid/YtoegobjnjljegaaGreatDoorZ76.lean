/-
  Plain: the recipes of all cells; what an account that is no leaf has is what its children have. No program in sight.
-/
import Derived.Test.YtoegobjnjljegaaGreatDoorZ64
import Derived.Test.YtoegobjnjljegaaGreatDoorZ21
set_option maxRecDepth 100000
set_option maxHeartbeats 6400000
namespace Go.Gk.V37
open Go.RowKit Go.Gk.V33
def zhp (l:List Acc) (a:Int):List Int:=(zal l.length).filter fun x=>zgl l x==a
theorem kids_in {l:List Acc} {a x:Int} (h:x∈zhp l a):1≤x∧x≤(l.length:Int):=zgc.1 (List.mem_filter.1 h).1
theorem zi1 (l:List Acc) (a:Int):(zhp l a).length≤l.length:=by
 unfold zhp;exact Nat.le_trans (List.length_filter_le _ _) (by rw[za5];omega)
def zkg (c:Rt6) (x:Int):Rt6:=(c.1,c.2.1,x,c.2.2.2)
def zkh (l:List Acc) (c:Rt6):Rcp:={Rcp.none with plus:=(zhp l c.2.2.1).map (zkg c)}
def zcz (b:Bks) (c:Rt6):Rcp×Int:=if c.1=1∨c.1=2 then zcr b c else if c.1=3 then zd1 b c else if c.1=4∨c.1=5 then zcc b c else if c.1=6 then zcf b c else zfz b c
def zfg (b:Bks) (c:Rt6):Rcp×Int:=
 if za3 c b.ents.length b.accs.length=0 then(if zas b.accs c.2.2.1=true then zcz b c else(zkh b.accs c,0))else(Rcp.none,za3 c b.ents.length b.accs.length)
theorem zlx {c:Rt6} {ne na:Int} (h:za3 c ne na=0):zc2 c=true∧¬ne<max c.2.1 c.2.2.2.2.2∧¬na<c.2.2.1:=by
 unfold za3 at h;by_cases h2:zc2 c=true
 ·rw[if_pos h2]at h;by_cases h3:ne<max c.2.1 c.2.2.2.2.2
  ·rw[if_pos h3]at h;cases h
  ·rw[if_neg h3]at h;by_cases h4:na<c.2.2.1
   ·rw[if_pos h4]at h;cases h
   ·exact⟨h2,h3,h4⟩
 ·rw[if_neg h2]at h;cases h
theorem zly {c:Rt6} (h:zc2 c=true):(1≤c.1∧c.1≤7)∧(1≤c.2.2.1∧c.2.2.1≤60):=by
 unfold zc2 at h;simp only[Bool.and_eq_true,wi,decide_eq_true_eq]at h;omega
theorem zi2 {b:Bks} {c:Rt6} {lo hi:Int} (h:za3 c b.ents.length b.accs.length=0) (hl:zas b.accs c.2.2.1=true) (hr:lo≤c.1∧c.1≤hi):za7 b c lo hi=0:=by
 unfold za7;rw[if_pos h,if_neg (by omega),if_pos hl]
theorem zxc {b:Bks} {c:Rt6} (h:za3 c b.ents.length b.accs.length=0) (hl:zas b.accs c.2.2.1=true):(zcz b c).2=0:=by
 have hr:=(zly (zlx h).1).1;unfold zcz;by_cases h1:c.1=1∨c.1=2
 ·rw[if_pos h1];unfold zcr;rw[if_pos (zi2 h hl (by omega))]
 rw[if_neg h1];by_cases h3:c.1=3
 ·rw[if_pos h3];unfold zd1;rw[if_pos (zi2 h hl (by omega))]
 rw[if_neg h3];by_cases h4:c.1=4∨c.1=5
 ·rw[if_pos h4];unfold zcc;rw[if_pos (zi2 h hl (by omega))]
 rw[if_neg h4];by_cases h6:c.1=6
 ·rw[if_pos h6];unfold zcf;rw[if_pos (zi2 h hl (by omega))]
 ·rw[if_neg h6];unfold zfz;rw[if_pos (zi2 h hl (by omega))]
theorem child_in {b:Bks} {c:Rt6} (h:za3 c b.ents.length b.accs.length=0) (h60:b.accs.length≤60) {x:Int} (hx:x∈zhp b.accs c.2.2.1):za3 (zkg c x) b.ents.length b.accs.length=0:=by
 obtain⟨h1,h2,_⟩:=zlx h;have h4:=kids_in hx
 have hk:zc2 (zkg c x)=true:=by
  unfold zc2 at h1⊢;unfold zkg;simp only[Bool.and_eq_true,wi,decide_eq_true_eq,Bool.not_eq_true']at h1⊢;exact⟨⟨⟨⟨⟨h1.1.1.1.1.1,by omega⟩,h1.1.1.1.2⟩,h1.1.1.2⟩,h1.1.2⟩,h1.2⟩
 unfold za3;rw[if_pos hk,if_neg (show¬(b.ents.length:Int)<max (zkg c x).2.1 (zkg c x).2.2.2.2.2 from h2),if_neg (show¬(b.accs.length:Int)<(zkg c x).2.2.1 by show¬(b.accs.length:Int)<x;omega)]
end Go.Gk.V37
namespace Go.Proofs.YtoegobjnjljegaaGreatDoor
open Go.RowKit Go.Gk Go.Gk.V33 Go.Gk.V37
theorem zxd {w:World} {v:Value} {l:List Acc} (hl:zae zfq 4 (fun _=>True) w v l) (hn:l.length≤100000) (x a:Int) (h1:1≤x) (h2:x≤(l.length:Int)) {bl ba:Nat} (hv:w.cell? ⟨bl,0,none⟩=some v) (ha:w.cell? ⟨ba,0,none⟩=some (.int .i64 a)):
 Calls Tryz.prog 284 #[.int .i64 x,.pointer (some ⟨bl,0,none⟩),.pointer (some ⟨ba,0,none⟩)] w (zgr (zgl l x==a) w):=by
 obtain⟨k,rfl⟩:∃k:Nat,x=(k:Int)+1:=⟨(x-1).toNat,by omega⟩
 have hk:k<l.length:=by omega
 have hup:zgl l ((k:Int)+1)=l[k].1:=by
  unfold zgl;rw[show(((k:Int)+1)-1).toNat=k by omega,List.getElem?_eq_getElem hk];rfl
 rw[hup];obtain⟨A,c,rfl,_,_⟩:=hl.form;obtain⟨g,o,rfl⟩:=hl.head (by omega);obtain⟨p0,p1,p2,p3⟩:=Row.four hl zcm hk rfl;have hw:wrap64 ((k:Int)+1-1)=(k:Int):=by unfold wrap64;omega
 have hkl:(k:Int)<(l.length:Int):=by omega
 have hk0:=znn k;generalize l[k]=y at *;obtain⟨y1,y2,y3,y4⟩:=y;simp only at p0 p1 p2 p3⊢;have X0:=wc0 hv;have X1:=wc0 ha;have X2:=wc0 p0;clear hl hup p1 p2 p3;go_enter Tryz.func284,Tryz.ntmps284;go_wp2_with fail;refine zai (fun _=>False) [] 7 [] [] ?_ ?_
 ·exact trivial
 intro bef _;iterate 7 (refine zbt ?_;(try simp only[zaw]))
 refine za6 ?_;intro w2 hr hp hap;have t2:=(Tch.drew (fun _=>False) w).trans hr;clear hap hp hr X0 X1 X2;go_wp2;go_ret;exact⟨rfl,t2⟩
theorem zr0 {w:World} {v:Value} {l:List Acc} (hl:zae zfq 4 (fun _=>True) w v l) (hn:l.length≤100000) (a:Int):
 Calls Tryz.prog 215 #[v,.int .i64 a] w fun e w'=>∃u,e=.returned u∧zet w w' u (if zdb l a=true then zhp l a else[]):=by
 have ta:=tal w (.cells #[.int .i64 a] 3);have tb:=tal (w.alloc (.cells #[.int .i64 a] 3)) (.cells #[v] 237);have tw:=ta.trans tb;have bA:=(Blk.new w 3 #[.int .i64 a]).keep tb id;have bT:=Blk.new2 w (.cells #[.int .i64 a] 3) 237 #[v];have hl1:=hl.keep tw;have HI:=Lib.hid (zls hl1 a);obtain⟨A,c,rfl,hc1,hc2⟩:=hl.form
 obtain⟨R,hR⟩:∃R,(if zdb l a=true then zhp l a else[])=R:=⟨_,rfl⟩
 rw[hR];have HR:=Lib.hid hR;clear ta tb hl hR;go_enter Tryz.func215,Tryz.ntmps215;go_wp2_with fail;generalize(w.alloc (.cells #[.int .i64 a] 3)).alloc _=W at *;generalize w.heap.size=z at *;refine HI.out.mono ?_;rintro _ _ ⟨rfl,rfl⟩;clear HI;by_cases hi:zdb l a=true
 rotate_left
 ·have hi2:zdb l a=false:=by simpa using hi
  obtain rfl:([]:List Int)=R:=by rw[←HR.out,if_neg hi]
  rw[hi2];clear HR bA bT hi hi2;go_wp2;go_ret;exact⟨_,rfl,Outs.start _ _ _ tw⟩
 obtain rfl:zhp l a=R:=by rw[←HR.out,if_pos hi]
 rw[hi];have t0:=bT.at0;have HC:=Lib.hid (zgz hl1 hn (fun x=>zgl l x==a) 284 #[] #[.pointer (some ⟨z+1,0,none⟩),.pointer (some ⟨z,0,none⟩)] (enters_of Tryz.func284 (by kernel_rfl) rfl) (fun x w' h1 h2 t=>zxd (hl1.keep t) hn x a h1 h2 ((bT.keep t id).cell 0) ((bA.keep t id).cell 0)));clear HR hi;go_wp2_with fail;refine HC.out.mono ?_;rintro _ w1 ⟨u,rfl,hO⟩;clear HC;obtain⟨O,co,rfl,ho1,ho2⟩:=hO.form;go_wp2;go_ret;exact⟨_,rfl,hO.base tw⟩
section
variable {w:World} {bv bi B t mr mp:Nat} {e a s r l n lv:Value} {fs:List Value} {b:Bks} {us:List (Ent×Value)}
theorem zuz (h:Vw w bv bi B t mr mp e a s r l n lv fs b us) (hn:b.accs.length≤100000) (x:Int):
 Calls Tryz.prog 151 #[.pointer (some ⟨bv,0,none⟩),.int .i64 x] w fun y w'=>∃u,y=.returned u∧zet w w' u (if zdb b.accs x=true then zhp b.accs x else[]):=by
 have ta:=tal w (.cells #[.pointer (some ⟨bv,0,none⟩)] 34);have bV:=Blk.new w 34 #[.pointer (some ⟨bv,0,none⟩)];have h1:=h.keep ta;have hM:=Lib.hid (zb5 h1);have HK:=Lib.hid (zr0 h1.bks.accs hn x);generalize(if zdb b.accs x=true then zhp b.accs x else[])=R at *;obtain⟨Aa,ca,rfl,_,_⟩:=h.bks.accs.form;have b0:=bV.at0;have v0:=h1.view.at0;have v2:=h1.seen.at2;clear h h1 bV;go_enter Tryz.func151,Tryz.ntmps151;go_wp2_with fail;generalize w.alloc _=W at *;generalize w.heap.size=z at *;refine hM.out.mono ?_;rintro _ _ ⟨rfl,rfl⟩;clear hM
 have HC:Calls Tryz.prog 214 #[.int .i64 x,.pointer (some ⟨z,0,none⟩)] W fun y w'=>∃u,y=.returned u∧zet W w' u R:=by
  go_enter Tryz.func214,Tryz.ntmps214;go_wp2_with fail;refine HK.out.mono ?_;rintro _ w1 ⟨u,rfl,hO⟩;obtain⟨O,co,rfl,_,_⟩:=hO.form;go_wp2;go_ret;exact⟨_,rfl,hO⟩
 have HC2:=Lib.hid HC;clear HK HC v0 v2 b0;go_wp2_with fail;refine HC2.out.mono ?_;rintro _ w1 ⟨u,rfl,hO⟩;obtain⟨O,co,rfl,_,_⟩:=hO.form;clear HC2;go_wp2;go_ret;exact⟨_,rfl,hO.base ta⟩
end
open Go.RowKit Go.Gk Go.Gk.V33 Go.Gk.V37
section
variable {w:World} {bv bi B t mr mp:Nat} {e a s r l n lv:Value} {fs:List Value} {b:Bks} {us:List (Ent×Value)}
theorem zu0 (h:Vw w bv bi B t mr mp e a s r l n lv fs b us) (hac:b.accs.length≤1000) (c1 c2 c3 c4 c5 c6:Int):
 Calls Tryz.prog 65 #[.pointer (some ⟨bv,0,none⟩),.agg #[.int .i64 c1,.int .i64 c2,.int .i64 c3,.int .i64 c4,.int .i64 c5,.int .i64 c6]] w fun x w'=>∃(xs:List Rt6) (O:Option Addr) (co:Nat),xs=(if zdb b.accs c3=true then zhp b.accs c3 else[]).map (zkg (c1,c2,c3,c4,c5,c6))∧x=.returned (.agg #[.int .i64 0,.int .i64 0,.slice O xs.length co,.slice none 0 0,.int .i64 0,.int .i64 0,.int .i64 0,.int .i64 0,.int .i64 0,.int .i64 0,.bool false,.int .i64 0,.int .i64 0,.bool false])∧zae za2 6 (fun g=>w.heap.size≤g) w' (.slice O xs.length co) xs∧Tf w w':=by
 have ta:=tal w (.cells #[.int .i64 c1,.int .i64 c2,.int .i64 c3,.int .i64 c4,.int .i64 c5,.int .i64 c6] 31);have tb:=tal (w.alloc (.cells #[.int .i64 c1,.int .i64 c2,.int .i64 c3,.int .i64 c4,.int .i64 c5,.int .i64 c6] 31)) (.cells #[.int .i64 0,.int .i64 0,.slice none 0 0,.slice none 0 0,.int .i64 0,.int .i64 0,.int .i64 0,.int .i64 0,.int .i64 0,.int .i64 0,.bool false,.int .i64 0,.int .i64 0,.bool false] 48);have tc:=tal ((w.alloc (.cells #[.int .i64 c1,.int .i64 c2,.int .i64 c3,.int .i64 c4,.int .i64 c5,.int .i64 c6] 31)).alloc (.cells #[.int .i64 0,.int .i64 0,.slice none 0 0,.slice none 0 0,.int .i64 0,.int .i64 0,.int .i64 0,.int .i64 0,.int .i64 0,.int .i64 0,.bool false,.int .i64 0,.int .i64 0,.bool false] 48)) (.cells #[.int .i64 0,.int .i64 0,.slice none 0 0,.slice none 0 0,.int .i64 0,.int .i64 0,.int .i64 0,.int .i64 0,.int .i64 0,.int .i64 0,.bool false,.int .i64 0,.int .i64 0,.bool false] 48);have tw:=(ta.trans tb).trans tc;have bC:=((Blk.new w 31 #[.int .i64 c1,.int .i64 c2,.int .i64 c3,.int .i64 c4,.int .i64 c5,.int .i64 c6]).keep tb id).keep tc id;have bO:=(Blk.new2 w (.cells #[.int .i64 c1,.int .i64 c2,.int .i64 c3,.int .i64 c4,.int .i64 c5,.int .i64 c6] 31) 48 #[.int .i64 0,.int .i64 0,.slice none 0 0,.slice none 0 0,.int .i64 0,.int .i64 0,.int .i64 0,.int .i64 0,.int .i64 0,.int .i64 0,.bool false,.int .i64 0,.int .i64 0,.bool false]).keep tc id;have bR:Blk (((w.alloc (.cells #[.int .i64 c1,.int .i64 c2,.int .i64 c3,.int .i64 c4,.int .i64 c5,.int .i64 c6] 31)).alloc (.cells #[.int .i64 0,.int .i64 0,.slice none 0 0,.slice none 0 0,.int .i64 0,.int .i64 0,.int .i64 0,.int .i64 0,.int .i64 0,.int .i64 0,.bool false,.int .i64 0,.int .i64 0,.bool false] 48)).alloc (.cells #[.int .i64 0,.int .i64 0,.slice none 0 0,.slice none 0 0,.int .i64 0,.int .i64 0,.int .i64 0,.int .i64 0,.int .i64 0,.int .i64 0,.bool false,.int .i64 0,.int .i64 0,.bool false] 48)) (w.heap.size+1+1) 48 #[.int .i64 0,.int .i64 0,.slice none 0 0,.slice none 0 0,.int .i64 0,.int .i64 0,.int .i64 0,.int .i64 0,.int .i64 0,.int .i64 0,.bool false,.int .i64 0,.int .i64 0,.bool false]:=by simpa using Blk.new ((w.alloc (.cells #[.int .i64 c1,.int .i64 c2,.int .i64 c3,.int .i64 c4,.int .i64 c5,.int .i64 c6] 31)).alloc (.cells #[.int .i64 0,.int .i64 0,.slice none 0 0,.slice none 0 0,.int .i64 0,.int .i64 0,.int .i64 0,.int .i64 0,.int .i64 0,.int .i64 0,.bool false,.int .i64 0,.int .i64 0,.bool false] 48)) 48 #[.int .i64 0,.int .i64 0,.slice none 0 0,.slice none 0 0,.int .i64 0,.int .i64 0,.int .i64 0,.int .i64 0,.int .i64 0,.int .i64 0,.bool false,.int .i64 0,.int .i64 0,.bool false]
 have hLN:(if zdb b.accs c3=true then zhp b.accs c3 else[]).length≤1000:=by
  split
  ·exact Nat.le_trans (zi1 _ _) hac
  ·exact Nat.zero_le _
 have HVL:=Lib.hid (zuz (h.keep tw) (by omega) c3);have hcc:=bC.at2;clear ta tb tc h;generalize(if zdb b.accs c3=true then zhp b.accs c3 else[])=L at *;go_enter Tryz.func65,Tryz.ntmps65;go_wp2_with fail;generalize((w.alloc (.cells #[.int .i64 c1,.int .i64 c2,.int .i64 c3,.int .i64 c4,.int .i64 c5,.int .i64 c6] 31)).alloc (.cells #[.int .i64 0,.int .i64 0,.slice none 0 0,.slice none 0 0,.int .i64 0,.int .i64 0,.int .i64 0,.int .i64 0,.int .i64 0,.int .i64 0,.bool false,.int .i64 0,.int .i64 0,.bool false] 48)).alloc _=W at *;generalize hzw:w.heap.size=z at *;have HZW:=Lib.hid hzw;clear hzw;refine HVL.out.mono ?_;rintro _ w1 ⟨u,rfl,hO⟩;have bC1:=bC.keep hO.tch id;have bO1:=bO.keep hO.tch id;have bR1:=bR.keep hO.tch id;have T1:=tw.trans hO.tch;have hl:=hO.row;have HUU:=Lib.hid (fun g (hg:u.ownBlock=some g)=>(hO.own.lt g hg).1);obtain⟨U,cu,rfl,hu1,hu2⟩:=hO.form;have hzz:z+3≤w1.heap.size:=by have:=bR1.lt;omega
 have hln:(L.length:Int)≤1000:=by omega
 have HLB:=Lib.hid hl;have hzb:z+2<W.heap.size:=bR.lt;have HROW:=Lib.hid (fun wr (ht:Tch (fun g=>g=z+1+1) w1 wr)=>Row.keepTo (P':=fun _=>True) (Row.own hO.own (P:=fun g=>W.heap.size≤g) (fun g hg=>(hO.own.lt g hg).1)) ht (fun g _ hg=>⟨fun e=>by have e:g=z+1+1:=e;omega,trivial⟩));clear HVL hcc bC bO bR tw hO hl HUU HLB;go_wp2_with fail;go_loopw [14] (fun i wr=>∃(j:Nat) (xs:List Rt6) (O:Option Addr) (co:Nat),j≤L.length∧i=.int .i64 j∧(L.take j).map (zkg (c1,c2,c3,c4,c5,c6))=xs∧Blk wr (z+1+1) 48 #[.int .i64 0,.int .i64 0,.slice O xs.length co,.slice none 0 0,.int .i64 0,.int .i64 0,.int .i64 0,.int .i64 0,.int .i64 0,.int .i64 0,.bool false,.int .i64 0,.int .i64 0,.bool false]∧wr.ownsRow w1.heap.size 31 6 (.slice O xs.length co) xs.length (xs.flatMap za2)∧Tch (fun g=>g=z+1+1) w1 wr) (fun i _=>L.length-(intOf i).toNat)
 case atStart=>exact⟨0,[],none,0,Nat.zero_le _,rfl,rfl,bR1,World.ownsRow_nil _ _ _ _,Tch.refl _ _⟩
 case round=>
  obtain⟨j,xs,O,co,hj,rfl,hxs,hR,hown,ht⟩:=hrel;have HXS:=Lib.hid hxs
  have hxl:xs.length≤j:=by
   rw[←hxs];rw[List.length_map,List.length_take];omega
  clear hxs;by_cases hlt:j<L.length
  ·have hlt':(j:Int)<(L.length:Int):=by omega
   have hj0:=znn j;have hl9:=HROW.out wr ht;obtain⟨g,o9,rfl⟩:=hl9.head (by omega);have q0:=Row.one hl9 zap hlt rfl
   have HP2:=Lib.hid (show(L.take (j+1)).map (zkg (c1,c2,c3,c4,c5,c6))=xs++[(c1,c2,L[j],c4,c5,c6)] by
    rw[←HXS.out,List.take_succ_eq_append_getElem hlt,List.map_append]
    rfl)
   generalize L[j]=x at *;clear HXS hl9;have bCr:=bC1.keep ht (by omega);have tD:=tal wr (.cells #[.int .i64 c1,.int .i64 c2,.int .i64 x,.int .i64 c4,.int .i64 c5,.int .i64 c6] 31);have tE:=tal (wr.alloc (.cells #[.int .i64 c1,.int .i64 c2,.int .i64 x,.int .i64 c4,.int .i64 c5,.int .i64 c6] 31)) (.cells #[.int .i64 c1,.int .i64 c2,.int .i64 x,.int .i64 c4,.int .i64 c5,.int .i64 c6] 31);have tDE:=tD.trans tE;have hR2:=hR.keep tDE id;have hown2:=tDE.own hown (fun _ _=>id);have HSZ:=ht.size;have HBE:=Lib.hid (fun m9=>(Blk.new2 wr (.cells #[.int .i64 c1,.int .i64 c2,.int .i64 x,.int .i64 c4,.int .i64 c5,.int .i64 c6] 31) 31 #[.int .i64 c1,.int .i64 c2,.int .i64 x,.int .i64 c4,.int .i64 c5,.int .i64 c6]).cell m9);have m2:=(hR.keep tD id).at2;have HLT:=Lib.hid (fun g hg=>hown.lt g hg);have hlen5:xs.length≤1000:=by omega
   obtain⟨y0,y1,y2,y3,y4,y5⟩:=bCr.f6;clear hown hR bCr tD tE;go_wp2_with (at_builtin;refine Hid.out ?_);refine Lib.hid ?_;refine apd za1 hown2 (Go.Gk.Src.one (news:=za2 (c1,c2,x,c4,c5,c6)) rfl (fun m9 u9 hu9=>by rw[HBE.out m9];simpa[za2]using hu9)) (zjd _) ?_;intro v2 w2 ho2 hg2 hl2;obtain⟨O2,co2,rfl,_,_⟩:=zac ho2;have tg:Tch (fun g=>w1.heap.size≤g) _ w2:=Tch.grown hg2 fun k9 hk9=>.inl (HLT.out k9 hk9).1
   have hR3:=hR2.keep tg (by omega);have t2:=ht.trans (Exn.touch tDE);have t3:=t2.trans' tg (fun i hi=>.inr hi)
   have hob:∀g,(Value.slice O2 (xs.length+1) co2).ownBlock=some g→w1.heap.size≤g:=fun g hg=>by
    rcases hl2 g hg with h9|h9
    ·exact(HLT.out g h9).1
    ·have:=tDE.size;omega
   clear hR2 hown2 tDE tg hg2 hl2 ht t2 HBE;go_wp2_with (refine zab rfl _ _ _ rfl (z+1+1) 2 (.slice O2 (xs.length+1) co2) (by rfl) (by rfl) rfl (by rfl) hR3 (by simp) ?_;refine Hid.out ?_);refine Lib.hid ?_;intro w4 hR4 ts4;(try simp only[List.setIfInBounds_toArray,List.set_cons_succ,List.set_cons_zero]at hR4);have hown4:=ts4.own (zbk ho2 hob) (fun g hg he=>by have he:g=z+1+1:=he;have:=hob g hg;omega);have t4:=t3.trans ts4;clear hR3 ho2 hob ts4 t3 HLT;go_wp2;go_roundw
   case rel=>exact⟨j+1,xs++[(c1,c2,x,c4,c5,c6)],O2,co2,by omega,by go_num,HP2.out,by simpa using hR4,by simpa[za2]using hown4,t4⟩
   case measure=>simp[intOf]<;>omega
  ·obtain rfl:j=L.length:=by omega
   have hxs:=HXS.out;rw[List.take_length]at hxs;have hlt':¬(L.length:Int)<(L.length:Int):=by omega
   have bO2:=bO1.keep ht (by omega);obtain⟨r0,r1,r2,r3,r4,r5,r6,r7,r8,r9,r10,r11,r12,r13⟩:=hR.f14;have T2:=T1.trans' ht (fun i hi=>.inr (by have hi:i=z+1+1:=hi;have:=HZW.out;omega));have HROWS:=Lib.hid (fun w' (t9:Tch (fun g=>g=z+1) wr w')=>Row.keepTo (P':=fun g=>w.heap.size≤g) (Row.own hown (P:=fun g=>w1.heap.size≤g) (fun g hg=>(hown.lt g hg).1)) t9 (fun g _ hg=>⟨fun e=>by have e:g=z+1:=e;omega,by have:=HZW.out;omega⟩));have HXL:=Lib.hid hxs;clear hxs HXS hR hown hlt ht HROW bC1 bO1 bR1 T1;go_wp2_with (refine stH (z+1) #[.int .i64 0,.int .i64 0,.slice O xs.length co,.slice none 0 0,.int .i64 0,.int .i64 0,.int .i64 0,.int .i64 0,.int .i64 0,.int .i64 0,.bool false,.int .i64 0,.int .i64 0,.bool false] bO2 ?_);intro w9 HBF HTF;clear bO2 r0 r1 r2 r3 r4 r5 r6 r7 r8 r9 r10 r11 r12 r13;go_wp2;(try simp only[Exit.inBlock,Exit.then]);(try rw[Exit.noGoto_ret]);refine zfe HBF.out ?_;refine⟨xs,O,co,HXL.out.symm,rfl,HROWS.out w9 HTF.out,T2.trans' (F':=fun g=>g=z+1) HTF.out (fun i hi=>.inr (by have hi:i=z+1:=hi;have:=HZW.out;omega))⟩
end
end Go.Proofs.YtoegobjnjljegaaGreatDoor
namespace Go.Gk.V37
open Go.RowKit Go.Gk Go.Gk.V33
theorem zte {b:Bks} {c:Rt6} (hc:c.1≠0):(∀k∈(zcz b c).1.plus,k.1≠0)∧∀k∈(zcz b c).1.minus,k.1≠0:=by
 have hnil:(∀k∈Rcp.none.plus,k.1≠0)∧∀k∈Rcp.none.minus,k.1≠0:=by simp[Rcp.none]
 have hside:∀a,∀k∈zce b c a,k.1≠0:=by
  intro a k hk;unfold zce at hk;obtain⟨p,_,rfl⟩:=List.mem_map.1 hk;show(3:Int)≠0;decide
 unfold zcz;split
 ·unfold zcr;split
  ·split
   ·exact hnil
   ·refine⟨fun k hk=>?_,fun k hk=>by simp[Rcp.none]at hk⟩;simp only[zbo,List.mem_append,List.mem_cons,List.not_mem_nil,or_false]at hk;rcases hk with hk|rfl
    ·split at hk
     ·simp only[List.mem_cons,List.not_mem_nil,or_false]at hk;subst hk;simp
     ·cases hk
    ·simp
  ·exact hnil
 split
 ·unfold zd1;split
  ·show(∀k∈(zcp b c).plus,k.1≠0)∧∀k∈(zcp b c).minus,k.1≠0;unfold zcp;split
   ·split
    ·exact hnil
    ·refine⟨fun k hk=>by simp[Rcp.none]at hk,fun k hk=>?_⟩;obtain⟨x,_,rfl⟩:=List.mem_map.1 hk;exact hc
   ·split
    ·refine⟨fun k hk=>?_,fun k hk=>by simp[Rcp.none]at hk⟩;simp only[List.mem_cons,List.not_mem_nil,or_false]at hk;subst hk;simp
    ·refine⟨fun k hk=>?_,fun k hk=>by simp[Rcp.none]at hk⟩;simp only at hk;split at hk
     ·simp only[List.mem_cons,List.not_mem_nil,or_false]at hk;subst hk;exact hc
     ·cases hk
  ·exact hnil
 split
 ·unfold zcc;split
  ·show(∀k∈(zc8 c (zcg b c)).plus,k.1≠0)∧∀k∈(zc8 c (zcg b c)).minus,k.1≠0;unfold zc8;split
   ·refine⟨fun k hk=>?_,fun k hk=>?_⟩<;>(simp only[List.mem_cons,List.not_mem_nil,or_false]at hk;subst hk;simp)
   ·split
    ·refine⟨fun k hk=>?_,fun k hk=>by simp[Rcp.none]at hk⟩;simp only[List.mem_cons,List.not_mem_nil,or_false]at hk;subst hk;simp
    ·split
     ·refine⟨fun k hk=>by simp[Rcp.none]at hk,fun k hk=>by simp[Rcp.none]at hk⟩
     ·exact hnil
  ·exact hnil
 split
 ·unfold zcf;split
  ·refine⟨fun k hk=>?_,fun k hk=>?_⟩
   ·simp only[zgb]at hk;split at hk
    ·obtain⟨a,_,ha⟩:=List.mem_flatMap.1 hk;exact hside a k ha
    ·cases hk
   ·simp only[ze4]at hk;split at hk
    ·exact hside _ k hk
    ·cases hk
  ·exact hnil
 ·unfold zfz;split
  ·refine⟨fun k hk=>?_,fun k hk=>by simp[Rcp.none]at hk⟩;simp only[zco,List.mem_cons,List.mem_append,List.mem_map,List.not_mem_nil,or_false]at hk;rcases hk with rfl|⟨x,_,rfl⟩|h|rfl
   ·simp[ofC]
   ·simp[ofC]
   ·split at h
    ·unfold zd0 at h;obtain⟨x,_,hx⟩:=List.mem_flatMap.1 h;obtain⟨y,_,rfl⟩:=List.mem_map.1 hx;simp[ofC]
    ·cases h
   ·simp[ofC]
  ·exact hnil
theorem zxe:∀u∈ze2.toList,∀y,u=.int .i64 y→y=0:=by
 intro u hu y e;subst e;simpa[ze2]using hu
theorem zu1 {x:Rt6} {r:List Rt6} (hx:x.1≠0):∀o,¬∀(j:Nat) (u:Value),((x::r).flatMap za2)[j]?=some u→ze2[o+j]?=some u:=by
 intro o h;have h0:=h 0 (.int .i64 x.1) (by simp[za2]);exact hx (zxe _ (Array.mem_toList_iff.2 (Array.mem_of_getElem? h0)) x.1 rfl)
theorem zhi {w w':World} {v:Value} {l:List Rt6} (h:zae za2 6 (fun _=>True) w v l) (hl:∀k∈l,k.1≠0) {z:Nat} {T:TypeId} (hz:Blk w z T ze2) (t:Tch (fun g=>g=z) w w'):zae za2 6 (fun _=>True) w' v l:=by
 cases l with
 |nil=>exact Row.keepTo (P':=fun _=>True) (show zae za2 6 (fun g=>g≠z) w v []from Row.none h) t (fun g _ hg=>⟨hg,trivial⟩)
 |cons x r=>exact Row.keepTo (P':=fun _=>True) (show zae za2 6 (fun g=>g≠z) w v (x::r)from Row.apart h hz (zu1 (hl x (List.mem_cons_self ..)))) t (fun g _ hg=>⟨hg,trivial⟩)
