/-
  The numbers of a cell's own lines.
-/
import Derived.Test.YtoegobjnjljegaaGreatDoorZ76
import Derived.Test.YtoegobjnjljegaaGreatDoorTr
import Derived.Test.YtoegobjnjljegaaGreatDoorZ61
import Derived.Test.YtoegobjnjljegaaGreatDoorZ32
set_option maxRecDepth 100000
set_option maxHeartbeats 6400000
namespace Go.Gk.V37
open Go.RowKit Go.Gk
def zoh (b:Bks) (c:Rt6):List Int:=
 if c.1=1∧za3 c b.ents.length b.accs.length=0∧zas b.accs c.2.2.1=true then((zbf (zay b.entries) (c.2.1,c.2.2.1,c.2.2.2.1)).filter fun r=>c.2.2.2.2.2==0||r.2.1==c.2.2.2.2.2).map (·.1)else[]
end Go.Gk.V37
namespace Go.Proofs.YtoegobjnjljegaaGreatDoor
open Go.RowKit Go.Gk Go.Gk.V37
section
variable {w:World} {bv bi B t mr mp:Nat} {e a s r l n lv:Value} {fs:List Value} {b:Bks} {us:List (Ent×Value)}
theorem zlw (h:Vw w bv bi B t mr mp e a s r l n lv fs b us) (hn:(zag b.accs).length≤1000) (hp:(zay b.entries).length≤10000) (c1 c2 c3 c4 c5 c6:Int):
 Calls Tryz.prog 17 #[.pointer (some ⟨bv,0,none⟩),.agg #[.int .i64 c1,.int .i64 c2,.int .i64 c3,.int .i64 c4,.int .i64 c5,.int .i64 c6]] w fun x w'=>∃u,x=.returned u∧Outs zby 1 3 w w' u (zoh b (c1,c2,c3,c4,c5,c6)):=by
 have HV:=Lib.hid (fun w' (t9:Tf w w')=>h.keep t9);have ta:=tal w (.cells #[.int .i64 c1,.int .i64 c2,.int .i64 c3,.int .i64 c4,.int .i64 c5,.int .i64 c6] 31);have bC:=Blk.new w 31 #[.int .i64 c1,.int .i64 c2,.int .i64 c3,.int .i64 c4,.int .i64 c5,.int .i64 c6];have HM:=Lib.hid (ze3 (HV.out _ ta) (c1,c2,c3,c4,c5,c6));unfold zcq at HM;simp only at HM;have HID:=Lib.hid (show zoh b (c1,c2,c3,c4,c5,c6)=if c1=1∧za3 (c1,c2,c3,c4,c5,c6) b.ents.length b.accs.length=0∧zas b.accs c3=true then((zbf (zay b.entries) (c2,c3,c4)).filter fun r=>c6==0||r.2.1==c6).map (·.1)else[]from rfl);generalize za3 (c1,c2,c3,c4,c5,c6) b.ents.length b.accs.length=ci at *;generalize zoh b (c1,c2,c3,c4,c5,c6)=R at *;obtain⟨k0,k1,k2,k3,k4,k5⟩:=bC.f6;clear h;by_cases h1:c1=1
 rotate_left
 ·have hb:(c1 !=1)=true:=by simpa using h1
  obtain rfl:[]=R:=by rw[HID.out,if_neg (fun h=>h1 h.1)]
  have HTA:=Lib.hid ta;clear h1 HID HM HV bC ta;go_enter Tryz.func17,Tryz.ntmps17;go_wp2;go_ret;exact⟨_,rfl,Outs.start _ _ _ HTA.out⟩
 subst h1;go_enter Tryz.func17,Tryz.ntmps17;go_wp2_with fail;generalize w.alloc _=W at *;generalize w.heap.size=z at *;refine HM.out.mono ?_;rintro _ w1 ⟨rfl,t1⟩;have bC1:=bC.keep t1 id;have T1:=ta.trans t1;clear HM bC ta t1 k0 k1 k2 k3 k4 k5;by_cases hci:ci=0
 rotate_left
 ·have hcb:(ci !=0)=true:=by simpa using hci
  obtain rfl:[]=R:=by rw[HID.out,if_neg (fun h=>hci h.2.1)]
  have HTA:=Lib.hid T1;clear hci HID HV bC1 T1;go_wp2;go_ret;exact⟨_,rfl,Outs.start _ _ _ HTA.out⟩
 subst hci;have HLF:=Lib.hid (zdx (HV.out w1 T1) hn c3);rw[zb9]at HLF;have k2:=bC1.at2;go_wp2_with fail;refine HLF.out.mono ?_;rintro _ w2 ⟨rfl,t2⟩;have bC2:=bC1.keep t2 id;have T2:=T1.trans t2;clear HLF k2 bC1 T1 t2;by_cases hlf:zas b.accs c3=true
 rotate_left
 ·have hlf2:zas b.accs c3=false:=by simpa using hlf
  obtain rfl:[]=R:=by rw[HID.out,if_neg (fun h=>hlf h.2.2)]
  have HTA:=Lib.hid T2;rw[hlf2];clear hlf hlf2 HID HV bC2 T2;go_wp2;go_ret;exact⟨_,rfl,Outs.start _ _ _ HTA.out⟩
 have HR:=Lib.hid (show R=((zbf (zay b.entries) (c2,c3,c4)).filter fun r=>c6==0||r.2.1==c6).map (·.1) by rw[HID.out,if_pos (by simpa using hlf)]);rw[hlf];have HI:=Lib.hid (zxq (HV.out w2 T2) hp c2 c3 c4 c6);have k1:=bC2.at1;have k2:=bC2.at2;have k3:=bC2.at3;have k5:=bC2.at5;rw[←HR.out]at HI;clear hlf HID HV bC2 HR;go_wp2_with fail;refine HI.out.mono ?_;rintro _ w3 ⟨u,rfl,hO⟩;obtain⟨O,co,rfl,ho1,ho2⟩:=hO.form;clear HI k1 k2 k3 k5;go_wp2;go_ret;exact⟨_,rfl,hO.base T2⟩
end
end Go.Proofs.YtoegobjnjljegaaGreatDoor
namespace Go.Gk
open Go.RowKit Go.Instr
def zmi (k:Int):Value:=.int .i64 k
section
variable {P:Program} {T K E:TypeId} {w:World}
theorem zg2 (k:Int):∀(m:List (Int×Value)) (es:List MapEntry) (i:Nat),es.map (fun e=>(e.key,e.val))=m.map (fun p=>(zmi p.1,p.2))→findNow (.int .i64) (zmi k) es i=some (zm6 m k i)
 |[],es,i,h=>by
  obtain rfl:es=[]:=by simpa using h
  rfl
 |p::r,es,i,h=>by
  match es,h with
  |[],h=>simp at h
  |e::es,h=>
   simp only[List.map_cons,List.cons.injEq,Prod.mk.injEq]at h;obtain⟨⟨h1,h2⟩,h3⟩:=h;have ih:=zg2 k r es (i+1) h3;rw[findNow,h1];unfold zmi at ih⊢;unfold sameNow;by_cases e':k=p.1
   ·simp[e',h2,zm6]
   ·have hb:(k==p.1)=false:=by simpa using e'
    simp[e',zm6,ih,hb]
theorem zry (hT:P.underlying T=some (.map K E)) (hK:P.underlying K=some (.int .i64)) {b:Nat} {m:List (Int×Value)} (h:MapIs zmi w b m) (k:Int) (v:Value) (hn:zm6 m k 0=none):
 ∃w',(Instr.mapUpdate T (.map (some b)) (zmi k) v).run P w=.ok () w'∧MapIs zmi w' b (m++[(k,v)])∧Tch (fun g=>g=b) w w':=by
 obtain⟨es,c,h1,h2⟩:=h;have hlt:=(Array.getElem?_eq_some_iff.1 h1).1;have hf:=MapKept.run_findKey (w:=w) hK (zg2 k m es.toList 0 h2);rw[hn]at hf;have hc:(checkKey false 10000 K (zmi k)).run P w=.ok () w:=MapKept.run_checkKey hK (show MapKept.IsKey (.int .i64) (zmi k)from rfl) false 9999;have hset:∀o:Obj,(setObj b o).run P w=.ok () {w with heap:=w.heap.setIfInBounds b o}:=fun o=>MapKept.run_setObj_map o h1
 have ht:∀o:Obj,Tch (fun g=>g=b) w {w with heap:=w.heap.setIfInBounds b o}:=fun o=>⟨rfl,rfl,rfl,by simp,fun k _ hn=>by simp only;rw[Array.getElem?_setIfInBounds_ne (fun e=>hn e.symm)]⟩
 have hnew:∀o:Obj,({w with heap:=w.heap.setIfInBounds b o}:World).heap[b]?=some o:=fun o=>by simp[hlt]
 unfold Instr.mapUpdate;rw[Sem.run_bind,run_underlying hT];simp only[Result.andThen_ok,Sem.run_bind,MapKept.run_getObj_map h1,hc,hf,hset];refine⟨_,rfl,⟨_,_,hnew _,?_⟩,ht _⟩;rw[Array.toList_push,List.map_append,h2,List.map_append];rfl
theorem zpz (hT:P.underlying T=some (.map K E)) (hK:P.underlying K=some (.int .i64)) {b:Nat} {m:List (Int×Value)} (h:MapIs zmi w b m) {k:Int} {v:Value} (hv:zar m k=some v):
 (Instr.lookup T (.map (some b)) (zmi k) false).run P w=.ok v w:=by
 obtain⟨es,c,h1,h2⟩:=h;have hf:=MapKept.run_findKey (w:=w) hK (zg2 k m es.toList 0 h2);have hc:(checkKey es.isEmpty 10000 K (zmi k)).run P w=.ok () w:=MapKept.run_checkKey hK (show MapKept.IsKey (.int .i64) (zmi k)from rfl) es.isEmpty 9999;have hi:=zlg m k 0;rw[hv]at hi;have hg:(getObj b).run P w=.ok (.map es c) w:=MapKept.run_getObj_map h1;unfold Instr.lookup;rw[Sem.run_bind,run_underlying hT];simp only[Result.andThen_ok,Sem.run_bind,hg,Sem.run_pure,hc,hf]
 cases ha:zm6 m k 0 with
 |none=>rw[ha]at hi;cases hi
 |some q=>
  rw[ha]at hi;obtain⟨i,u⟩:=q;simp only[Option.map_some,Option.some.injEq]at hi;subst hi;simp
variable {ops:Array Oper} {rest:List Oper} {o:Oper} {a:Act} {Q:Exit→Act→World→Prop}
theorem zcb (hg:o.guard=none) (T:TypeId) (m x v:Operand) (hop:o.op=Op.insert T m x v) (hT:P.underlying T=some (.map K E)) (hK:P.underlying K=some (.int .i64)) {b:Nat} {l:List (Int×Value)} (k:Int) (u:Value)
 (hm:a.eval m=.map (some b)) (hx:a.eval x=zmi k) (hv:a.eval v=u) (h:MapIs zmi w b l) (hn:zm6 l k 0=none) (h9:∀w',MapIs zmi w' b (l++[(k,u)])→Tch (fun g=>g=b) w w'→wpList P ops Q rest (a.put o.dst undef) w'):wpList P ops Q (o::rest) a w:=by
 refine wpList_plain hg fun K' hK'=>?_
 obtain⟨w',hrun,r1,r2⟩:=zry hT hK h k u hn;unfold Oper.wp;simp[execOp,hop,hm,hx,hv,hrun,Result.andThen];exact hK' _ _ (h9 w' r1 r2)
theorem zlu (T:TypeId) (m x:Operand) (hop:o.op=Op.lookup T m x false) (hT:P.underlying T=some (.map K E)) (hK:P.underlying K=some (.int .i64)) {b:Nat} {l:List (Int×Value)} {k:Int} {u:Value}
 (hm:a.eval m=.map (some b)) (hx:a.eval x=zmi k) (h:MapIs zmi w b l) (hu:zar l k=some u) {S:Value→World→Prop} (hS:S u w):za8 P o a w S:=by
 have hrun:=zpz (P:=P) hT hK h hu;unfold za8;simp only[execOp,hop,hm,hx,Sem.run_bind,hrun,Result.andThen_ok,Sem.run_pure];exact hS
end
end Go.Gk
namespace Go.Proofs.YtoegobjnjljegaaGreatDoor
open Go.RowKit Go.Gk
def tellF (c:Int):Value:=if c=1∨c=2 then .func (.func 152) #[] #[]else if c=3 then .func (.func 153) #[] #[]else if c=4∨c=5 then .func (.func 154) #[] #[]else if c=6 then .func (.func 155) #[] #[]else .func (.func 156) #[] #[]
def zlv:List (Int×Value):=[(1,.func (.func 152) #[] #[]),(2,.func (.func 152) #[] #[]),(3,.func (.func 153) #[] #[]),(4,.func (.func 154) #[] #[]),(5,.func (.func 154) #[] #[]),(6,.func (.func 155) #[] #[]),(7,.func (.func 156) #[] #[])]
theorem zxb {c:Int} (h:1≤c∧c≤7):zar zlv c=some (tellF c):=by
 have:c=1∨c=2∨c=3∨c=4∨c=5∨c=6∨c=7:=by omega
 rcases this with rfl|rfl|rfl|rfl|rfl|rfl|rfl<;>rfl
theorem zp0 (w:World):(Instr.makeMap 152 none).run Tryz.prog w=.ok (.map (some w.heap.size)) (w.alloc (.map #[] 0)):=by
 kernel_rfl
theorem zrz (w:World):
 Calls Tryz.prog 66 #[] w fun x w'=>∃g,x=.returned (.map (some g))∧MapIs zmi w' g zlv∧Tf w w':=by
 have hmk:=zp0 w;have hT:=Tryz.underlying152;have hK:=Tryz.underlying3;have t0:=tal w (.map #[] 0);have m0:=MapIs.new zmi w;have hz:w.heap.size<(w.alloc (.map #[] 0)).heap.size:=by simp
 have HT:=Lib.hid t0;have HM:=Lib.hid m0;clear t0 m0 hz;go_enter Tryz.func66,Tryz.ntmps66;go_wp2_with (refine zcb rfl _ _ _ _ rfl hT hK 1 (.func (.func 152) #[] #[]) (by rfl) (by rfl) (by rfl) HM.out (by rfl) ?_;refine Hid.out ?_);refine Lib.hid ?_;intro w1 h1 s1;refine zcb rfl _ _ _ _ rfl hT hK 2 (.func (.func 152) #[] #[]) (by rfl) (by rfl) (by rfl) h1 (by rfl) ?_;intro w2 h2 s2;refine zcb rfl _ _ _ _ rfl hT hK 3 (.func (.func 153) #[] #[]) (by rfl) (by rfl) (by rfl) h2 (by rfl) ?_;intro w3 h3 s3;refine zcb rfl _ _ _ _ rfl hT hK 4 (.func (.func 154) #[] #[]) (by rfl) (by rfl) (by rfl) h3 (by rfl) ?_;intro w4 h4 s4;refine zcb rfl _ _ _ _ rfl hT hK 5 (.func (.func 154) #[] #[]) (by rfl) (by rfl) (by rfl) h4 (by rfl) ?_;intro w5 h5 s5;refine zcb rfl _ _ _ _ rfl hT hK 6 (.func (.func 155) #[] #[]) (by rfl) (by rfl) (by rfl) h5 (by rfl) ?_;intro w6 h6 s6;refine zcb rfl _ _ _ _ rfl hT hK 7 (.func (.func 156) #[] #[]) (by rfl) (by rfl) (by rfl) h6 (by rfl) ?_;intro w7 h7 s7;have hm:MapIs zmi w7 w.heap.size zlv:=h7;have tt:Tf w w7:=HT.out.trans' ((((((s1.trans s2).trans s3).trans s4).trans s5).trans s6).trans s7) (fun i hi=>.inr (by have hi:i=w.heap.size:=hi;omega));have HM7:=Lib.hid hm;have HT7:=Lib.hid tt;clear h1 h2 h3 h4 h5 h6 h7 s1 s2 s3 s4 s5 s6 s7 hm tt HM HT hT hK;go_wp2;go_ret;exact⟨_,rfl,HM7.out,HT7.out⟩
open Go.RowKit Go.Gk Go.Gk.V33 Go.Gk.V37
def zi0 (b:Bks) (c:Rt6) (w:World) (x:Ending) (w':World):Prop:=∃v,x=.returned (.tuple #[v,.int .i64 (zfg b c).2])∧RcpIs w' v (zfg b c).1∧Tf w w'
section
variable {w:World} {bv bi B t mr mp:Nat} {e a s r l n lv:Value} {fs:List Value} {b:Bks} {us:List (Ent×Value)}
structure RuleFacts (b:Bks):Prop where
 hn:(zag b.accs).length≤1000
 hp:(zay b.entries).length≤10000
 h64:∀p∈zay b.entries,I64 p.2.2.2.2
 hr:b.rates.length≤1000000
 h40:b.ents.length≤40
 hac:b.accs.length≤1000
 hok:zba b=true
theorem zuy (h:Vw w bv bi B t mr mp e a s r l n lv fs b us) (F:RuleFacts b) (hT:Tab64 0 w) (c1 c2 c3 c4 c5 c6:Int) (hc:1≤c1∧c1≤7):
 ∃f,tellF c1=.func (.func f) #[] #[]∧(∀args w,(callFunc f args).run Tryz.prog w=.ok (.enter f args) w)∧Calls Tryz.prog f #[.pointer (some ⟨bv,0,none⟩),.agg #[.int .i64 c1,.int .i64 c2,.int .i64 c3,.int .i64 c4,.int .i64 c5,.int .i64 c6]] w fun x w'=>∃v,x=.returned (.tuple #[v,.int .i64 (zcz b (c1,c2,c3,c4,c5,c6)).2])∧RcpIs w' v (zcz b (c1,c2,c3,c4,c5,c6)).1∧Tf w w':=by
 have:c1=1∨c1=2∨c1=3∨c1=4∨c1=5∨c1=6∨c1=7:=by omega
 rcases this with rfl|rfl|rfl|rfl|rfl|rfl|rfl
 ·exact⟨_,rfl,enters_of Tryz.func152 (by kernel_rfl) rfl,zkc h F.hn F.hp F.h64 1 c2 c3 c4 c5 c6⟩
 ·exact⟨_,rfl,enters_of Tryz.func152 (by kernel_rfl) rfl,zkc h F.hn F.hp F.h64 2 c2 c3 c4 c5 c6⟩
 ·exact⟨_,rfl,enters_of Tryz.func153 (by kernel_rfl) rfl,zqg h F.hn F.hr hT 3 c2 c3 c4 c5 c6⟩
 ·exact⟨_,rfl,enters_of Tryz.func154 (by kernel_rfl) rfl,zko h F.hn F.h40 4 c2 c3 c4 c5 c6⟩
 ·exact⟨_,rfl,enters_of Tryz.func154 (by kernel_rfl) rfl,zko h F.hn F.h40 5 c2 c3 c4 c5 c6⟩
 ·exact⟨_,rfl,enters_of Tryz.func155 (by kernel_rfl) rfl,zx8 h F.hn F.hp F.hok 6 c2 c3 c4 c5 c6⟩
 ·exact⟨_,rfl,enters_of Tryz.func156 (by kernel_rfl) rfl,zsh h F.hn F.h40 F.hac 7 c2 c3 c4 c5 c6⟩
theorem zga (h:Vw w bv bi B t mr mp e a s r l n lv fs b us) (F:RuleFacts b) (hT:Tab64 0 w) (c1 c2 c3 c4 c5 c6:Int):
 Calls Tryz.prog 15 #[.pointer (some ⟨bv,0,none⟩),.agg #[.int .i64 c1,.int .i64 c2,.int .i64 c3,.int .i64 c4,.int .i64 c5,.int .i64 c6]] w (zi0 b (c1,c2,c3,c4,c5,c6) w):=by
 have HV:=Lib.hid (fun w' (t9:Tf w w')=>h.keep t9);have HTB:=Lib.hid (fun w' (t9:Tf w w')=>hT.keep t9);have ta:=tal w (.cells #[.int .i64 c1,.int .i64 c2,.int .i64 c3,.int .i64 c4,.int .i64 c5,.int .i64 c6] 31);have tb:=tal (w.alloc (.cells #[.int .i64 c1,.int .i64 c2,.int .i64 c3,.int .i64 c4,.int .i64 c5,.int .i64 c6] 31)) (.cells #[.int .i64 0,.int .i64 0,.slice none 0 0,.slice none 0 0,.int .i64 0,.int .i64 0,.int .i64 0,.int .i64 0,.int .i64 0,.int .i64 0,.bool false,.int .i64 0,.int .i64 0,.bool false] 48);have tw:=ta.trans tb;have bC:=(Blk.new w 31 #[.int .i64 c1,.int .i64 c2,.int .i64 c3,.int .i64 c4,.int .i64 c5,.int .i64 c6]).keep tb id;have bO:=Blk.new2 w (.cells #[.int .i64 c1,.int .i64 c2,.int .i64 c3,.int .i64 c4,.int .i64 c5,.int .i64 c6] 31) 48 #[.int .i64 0,.int .i64 0,.slice none 0 0,.slice none 0 0,.int .i64 0,.int .i64 0,.int .i64 0,.int .i64 0,.int .i64 0,.int .i64 0,.bool false,.int .i64 0,.int .i64 0,.bool false];have HM:=Lib.hid (ze3 (HV.out _ tw) (c1,c2,c3,c4,c5,c6));unfold zcq at HM;simp only at HM;have HRU:=Lib.hid (show zfg b (c1,c2,c3,c4,c5,c6)=if za3 (c1,c2,c3,c4,c5,c6) b.ents.length b.accs.length=0 then(if zas b.accs c3=true then zcz b (c1,c2,c3,c4,c5,c6)else(zkh b.accs (c1,c2,c3,c4,c5,c6),0))else(Rcp.none,za3 (c1,c2,c3,c4,c5,c6) b.ents.length b.accs.length)from rfl);have HCR:=Lib.hid (fun(h9:za3 (c1,c2,c3,c4,c5,c6) b.ents.length b.accs.length=0)=>zly (zlx h9).1);have HCA:=Lib.hid (fun(h9:za3 (c1,c2,c3,c4,c5,c6) b.ents.length b.accs.length=0)=>(zlx h9).2.2);have HTO:=Lib.hid (fun(h9:za3 (c1,c2,c3,c4,c5,c6) b.ents.length b.accs.length=0) hl=>zxc (c:=(c1,c2,c3,c4,c5,c6)) h9 hl);generalize za3 (c1,c2,c3,c4,c5,c6) b.ents.length b.accs.length=ci at *;clear ta tb h hT;obtain⟨g0,g1,g2,g3,g4,g5⟩:=bC.f6;go_enter Tryz.func15,Tryz.ntmps15;go_wp2_with fail;generalize(w.alloc (.cells #[.int .i64 c1,.int .i64 c2,.int .i64 c3,.int .i64 c4,.int .i64 c5,.int .i64 c6] 31)).alloc _=W at *;generalize hzw:w.heap.size=z at *;have HZW:=Lib.hid hzw;clear hzw;refine HM.out.mono ?_;rintro _ w1 ⟨rfl,t1⟩;have bC1:=bC.keep t1 id;have bO1:=bO.keep t1 id;have T1:=tw.trans t1;clear HM bC bO tw t1 g0 g1 g2 g3 g4 g5;by_cases hci:ci=0
 rotate_left
 ·have hcb:(ci !=0)=true:=by simpa using hci
  have HE:=Lib.hid (show zfg b (c1,c2,c3,c4,c5,c6)=(Rcp.none,ci) by rw[HRU.out,if_neg hci]);clear hci HRU HCR HCA HTO bC1;go_wp2_with (refine stH (z+1) #[.int .i64 0,.int .i64 0,.slice none 0 0,.slice none 0 0,.int .i64 0,.int .i64 0,.int .i64 0,.int .i64 0,.int .i64 0,.int .i64 0,.bool false,.int .i64 0,.int .i64 0,.bool false] bO1 ?_);intro w9 HF HTF;clear bO1;go_wp2;(try simp only[exS]);refine zbi HF.out ?_;unfold zi0;rw[HE.out];exact⟨_,rfl,⟨_,_,rfl,Row.nil _ _ _,Row.nil _ _ _⟩,T1.trans' (F':=fun g=>g=z+1) HTF.out (fun i hi=>.inr (by have hi:i=z+1:=hi;have:=HZW.out;omega))⟩
 subst hci;have HLF:=Lib.hid (zdx (HV.out w1 T1) F.hn c3);rw[zb9]at HLF;have k2:=bC1.at2;go_wp2_with fail;refine HLF.out.mono ?_;rintro _ w2 ⟨rfl,t2⟩;have bC2:=bC1.keep t2 id;have bO2:=bO1.keep t2 id;have T2:=T1.trans t2;clear HLF k2 bC1 bO1 T1 t2;obtain⟨k0,k1,k2,k3,k4,k5⟩:=bC2.f6;by_cases hlf:zas b.accs c3=true
 rotate_left
 ·have hlf2:zas b.accs c3=false:=by simpa using hlf
  have HE:=Lib.hid (show zfg b (c1,c2,c3,c4,c5,c6)=(zkh b.accs (c1,c2,c3,c4,c5,c6),0) by rw[HRU.out,if_pos (by trivial),if_neg hlf])
  have hai:zdb b.accs c3=true:=by
   have h1:=HCA.out (by trivial);have h2:=(HCR.out (by trivial)).2;unfold zdb;simp only[Bool.and_eq_true,decide_eq_true_eq];omega
  have HRO:=Lib.hid (zu0 (HV.out w2 T2) F.hac c1 c2 c3 c4 c5 c6);rw[if_pos hai]at HRO;rw[hlf2];clear hlf hlf2 hai HRU HCR HCA HTO bC2;go_wp2_with fail;refine HRO.out.mono ?_;rintro _ w3 ⟨xs,O,co,hxs,rfl,hrow,t3⟩;have bO3:=bO2.keep t3 id;have T3:=T2.trans t3;have HRW:=Lib.hid (fun w' (t9:Tch (fun g=>g=z+1) w3 w')=>Row.keepTo (P':=fun _=>True) hrow t9 (fun g _ hg=>⟨fun e=>by have e:g=z+1:=e;have h5:=bO2.lt;have hg:w2.heap.size≤g:=hg;omega,trivial⟩));have HXS:=Lib.hid (show(zkh b.accs (c1,c2,c3,c4,c5,c6)).plus=xs from hxs.symm);clear HRO hxs hrow t3 bO2 T2 k0 k1 k2 k3 k4 k5;go_wp2_with (refine stH (z+1) #[.int .i64 0,.int .i64 0,.slice O xs.length co,.slice none 0 0,.int .i64 0,.int .i64 0,.int .i64 0,.int .i64 0,.int .i64 0,.int .i64 0,.bool false,.int .i64 0,.int .i64 0,.bool false] bO3 ?_);intro w9 HF HTF;clear bO3;go_wp2;(try simp only[exS]);refine zbi HF.out ?_;unfold zi0;rw[HE.out];refine⟨_,rfl,⟨.slice O xs.length co,.slice none 0 0,rfl,?_,Row.nil _ _ _⟩,T3.trans' (F':=fun g=>g=z+1) HTF.out (fun i hi=>.inr (by have hi:i=z+1:=hi;have:=HZW.out;omega))⟩;rw[HXS.out];exact HRW.out w9 HTF.out
 have HE:=Lib.hid (show zfg b (c1,c2,c3,c4,c5,c6)=((zcz b (c1,c2,c3,c4,c5,c6)).1,0) by
  rw[HRU.out,if_pos (by trivial),if_pos hlf]
  exact Prod.ext rfl (HTO.out (by trivial) hlf))
 have HT0:=Lib.hid (HTO.out (by trivial) hlf);have HC1:=Lib.hid (HCR.out (by trivial)).1;have HFI:=Lib.hid (zxb (c:=c1) (HCR.out (by trivial)).1);rw[hlf];have X0:=wc0 k0;have X1:=wc0 k1;have X2:=wc0 k2;have X3:=wc0 k3;have X4:=wc0 k4;have X5:=wc0 k5;have HCL:=Lib.hid (fun w' (t9:Tf w w')=>zuy (HV.out w' t9) F (HTB.out w' t9) c1 c2 c3 c4 c5 c6 HC1.out);obtain⟨f,hf,hfe,_⟩:=HCL.out w (Tch.refl _ _)
 have HCF:=Lib.hid (fun w' (t9:Tf w w')=>show Calls Tryz.prog f #[.pointer (some ⟨bv,0,none⟩),.agg #[.int .i64 c1,.int .i64 c2,.int .i64 c3,.int .i64 c4,.int .i64 c5,.int .i64 c6]] w' fun x w9=>∃v,x=.returned (.tuple #[v,.int .i64 0])∧RcpIs w9 v (zcz b (c1,c2,c3,c4,c5,c6)).1∧Tf w' w9 by
  obtain⟨f',hf',_,hcl⟩:=HCL.out w' t9;rw[hf]at hf';simp only[Value.func.injEq,Fn.func.injEq,and_true]at hf';subst hf';have h0:=HT0.out;rw[h0]at hcl
  exact hcl)
 have HFE:=Lib.hid hfe;rw[hf]at HFI;clear HCL HT0 hf hfe HRU HCR HCA HTO hlf k0 k1 k2 k3 k4 k5;have HPO:=Lib.hid (zte (b:=b) (c:=(c1,c2,c3,c4,c5,c6)) (show c1≠0 by have:=HC1.out;omega));clear HC1;generalize(zcz b (c1,c2,c3,c4,c5,c6)).1=R at *;go_wp2_with fail;refine zai (fun _=>False) [] 9 [(0,.inr fun u w'=>∃g,u=.map (some g)∧MapIs zmi w' g zlv),(3,.inl (.func (.func f) #[] #[])),(6,.inr fun u w'=>∃v,u=.tuple #[v,.int .i64 0]∧RcpIs w' v R),(7,.inr fun u w'=>RcpIs w' u R),(8,.inl (.int .i64 0))] [] ?_ ?_
 ·exact⟨fun _ _ _ hr ⟨g,h1,h2⟩=>⟨g,h1,h2.keep hr id⟩,fun _ _ _ hr ⟨v,h1,h2⟩=>⟨v,h1,h2.keep hr⟩,fun _ _ _ hr h=>h.keep hr,trivial⟩
 intro bef hbef;have hb3:(bef.getD 3 0).testBit 0=true:=by rw[hbef];kernel_rfl
 have hb7:(bef.getD 7 0).testBit 6=true:=by rw[hbef];kernel_rfl
 have hb8:(bef.getD 8 0).testBit 6=true:=by rw[hbef];kernel_rfl
 clear hbef;refine zaq (by rfl) (by rfl) (fun wa hr hf=>?_) (fun d0=>?_)
 ·refine zaa (d:=26) rfl (by simp) (fun K hK=>?_);go_step;refine(zrz wa).mono ?_;rintro _ wb ⟨g,rfl,hm,tb⟩;exact hK _ _ ⟨⟨⟨g,rfl,hm⟩,tb⟩,zaf⟩
 simp only[zaw];iterate 2 (refine zbt ?_;(try simp only[zaw]))
 refine zb3 (.func (.func f) #[] #[]) (by rfl) (by rfl) (fun wa hr hf=>?_) ?_
 ·obtain⟨g,rfl,hm⟩:=hf (0,fun w'=>∃g,d0=.map (some g)∧MapIs zmi w' g zlv) (List.mem_cons_self ..) hb3;refine zlu _ _ _ rfl Tryz.underlying152 Tryz.underlying3 (k:=c1) (by rfl) (by rfl) hm HFI.out ?_;exact⟨⟨rfl,Tch.refl _ _⟩,zaf⟩
 simp only[zaw];iterate 2 (refine zbt ?_;(try simp only[zaw]))
 refine zaq (by rfl) (by rfl) (fun wa hr hf=>?_) (fun d6=>?_)
 ·refine zaa (d:=32) rfl (by simp) (fun K hK=>?_);have hfe:=HFE.out;go_step;refine(HCF.out wa ((T2.trans (Tch.drew _ w2)).trans hr)).mono ?_;rintro _ wb ⟨v,rfl,hv,tb⟩;exact hK _ _ ⟨⟨⟨v,rfl,hv⟩,tb⟩,zaf⟩
 simp only[zaw];refine zaq (by rfl) (by rfl) (fun wa hr hf=>?_) (fun d7=>?_)
 ·obtain⟨v,rfl,hv⟩:=hf (6,fun w'=>∃v,d6=.tuple #[v,.int .i64 0]∧RcpIs w' v R) (by simp) hb7;refine zaa (d:=33) rfl (by simp) (fun K hK=>?_);go_step;exact hK _ _ ⟨⟨hv,Tch.refl _ _⟩,zaf⟩
 simp only[zaw];refine zb3 (.int .i64 0) (by rfl) (by rfl) (fun wa hr hf=>?_) ?_
 ·obtain⟨v,rfl,hv⟩:=hf (6,fun w'=>∃v,d6=.tuple #[v,.int .i64 0]∧RcpIs w' v R) (by simp) hb8;refine zaa (d:=34) rfl (by simp) (fun K hK=>?_);go_step;exact hK _ _ ⟨⟨rfl,Tch.refl _ _⟩,zaf⟩
 simp only[zaw];refine za6 ?_;intro w3 hr hp hap;obtain⟨p,m,rfl,hp1,hm1⟩:=hp (7,fun w'=>RcpIs w' d7 R) (by simp);have t3:=(Tch.drew (fun _=>False) w2).trans hr;have bO3:=bO2.keep t3 id;have T3:=T2.trans t3;obtain⟨Pp,cp,rfl,_,_⟩:=hp1.form;obtain⟨Mm,cm,rfl,_,_⟩:=hm1.form;have HP:=Lib.hid (fun w' t9=>zhi hp1 HPO.out.1 (w':=w') bO3 t9);have HMM:=Lib.hid (fun w' t9=>zhi hm1 HPO.out.2 (w':=w') bO3 t9);clear HPO;obtain⟨⟨b1,b2⟩,pl,mi,⟨s1,s2,s3,s4,s5,s6⟩,rd,⟨q1,q2⟩,hs⟩:=R;unfold z4g;simp only at HP HMM⊢;clear hp hap hr t3 hp1 hm1 hb3 hb7 hb8 X0 X1 X2 X3 X4 X5 HCF HFI HFE bC2 bO2 T2;go_wp2_with (refine stH (z+1) #[.int .i64 b1,.int .i64 b2,.slice Pp pl.length cp,.slice Mm mi.length cm,.int .i64 s1,.int .i64 s2,.int .i64 s3,.int .i64 s4,.int .i64 s5,.int .i64 s6,.bool rd,.int .i64 q1,.int .i64 q2,.bool hs] bO3 ?_);intro w9 HF HTF;clear bO3;go_wp2;(try simp only[exS]);refine zbi HF.out ?_;unfold zi0;rw[HE.out];exact⟨_,rfl,⟨_,_,rfl,HP.out w9 HTF.out,HMM.out w9 HTF.out⟩,T3.trans' (F':=fun g=>g=z+1) HTF.out (fun i hi=>.inr (by have hi:i=z+1:=hi;have:=HZW.out;omega))⟩
