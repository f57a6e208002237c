/-
  Plain: what parents have, and what others have.
-/
import Derived.Test.YtlnlghboaheemaaGreatDoorZ20
set_option maxRecDepth 100000
set_option maxHeartbeats 1600000
namespace Go.Gk
theorem zdo {b:Bks} {c:Rt6} {lo hi:Int} (h:za7 b c lo hi=0):(lo≤c.1∧c.1≤hi)∧(0≤c.2.2.2.1∧c.2.2.2.1≤23)∧(1≤c.2.1∧c.2.1≤b.ents.length)∧zas b.accs c.2.2.1=true:=by
 unfold za7 at h;by_cases h0:za3 c b.ents.length b.accs.length=0
 ·rw[if_pos h0]at h;by_cases h1:c.1<lo∨hi<c.1
  ·rw[if_pos h1]at h;cases h
  ·rw[if_neg h1]at h;by_cases hl:zas b.accs c.2.2.1=true
   ·unfold za3 at h0;by_cases hc:zc2 c=true
    ·rw[if_pos hc]at h0;by_cases h2:(b.ents.length:Int)<max c.2.1 c.2.2.2.2.2
     ·rw[if_pos h2]at h0;cases h0
     ·unfold zc2 at hc;simp only[Bool.and_eq_true,wi,decide_eq_true_eq]at hc;refine⟨by omega,by omega,⟨by omega,by omega⟩,hl⟩
    ·rw[if_neg hc]at h0;cases h0
   ·rw[if_neg hl]at h;cases h
 ·rw[if_neg h0]at h;exact absurd h h0
theorem zd4 {l:List Acc} {a:Int} (h:zas l a=true):∃k:Nat,∃hk:k<l.length,a=(k:Int)+1∧l[(a-1).toNat]?=some l[k]:=by
 unfold zas zdb at h;simp only[Bool.and_eq_true,decide_eq_true_eq]at h;refine⟨(a-1).toNat,by omega,by omega,List.getElem?_eq_getElem (by omega)⟩
def z5c (b:Bks) (x p:Int):Int:=if 1≤x∧x≤b.ents.length then zbb b.stakes x p else 0
def zfj (b:Bks) (a:Int):Bool:=((b.accs[(a-1).toNat]?).map (·.2.2.1)).getD false
def zcg (b:Bks) (c:Rt6):Int:=if zfj b c.2.2.1 then z5c b c.2.1 c.2.2.2.1 else 10000
def zc8 (c:Rt6) (s:Int):Rcp:=
 if c.1=5 then{Rcp.none with plus:=[(7,c.2)],minus:=[(4,c.2)]}
 else if s=10000 then{Rcp.none with plus:=[(7,c.2)]}
 else if 0<s then{Rcp.none with scaled:=(7,c.2),rated:=true,ratio:=(s,10000),has:=true}else Rcp.none
def zcc (b:Bks) (c:Rt6):Rcp×Int:=if za7 b c 4 5=0 then(zc8 c (zcg b c),0)else(Rcp.none,za7 b c 4 5)
theorem zec {b:Bks} (h:zba b=true):b.ents.length≤40∧b.stakes.length≤400∧zan b.stakes b.ents.length=true:=by
 unfold zba at h;simp only[Bool.and_eq_true]at h;have h1:=h.1.1.1.1.1;have h2:=h.1.1.1.2;unfold zj0 at h1;simp only[Bool.and_eq_true,decide_eq_true_eq]at h1;refine⟨h1.1,?_,h2⟩;unfold zan at h2;simp only[Bool.and_eq_true,decide_eq_true_eq]at h2;exact h2.1
open Go.RowKit
theorem holds_n (l:List zbv) (n p:Int) (k:Nat):(zah l n p k).toArray[0]?=some (.int .i64 n):=rfl
theorem holds_up (l:List zbv) (n p:Int) {k i:Nat} (h1:1≤i) (h2:i≤k) (h40:i≤40):(zah l n p k).toArray[1+i*2]?=some (.int .i64 (zam l i p)):=by
 rw[List.getElem?_toArray];unfold zah;have h9:=zlc l p k (i:=i) (j:=0) (by omega) (by omega);rw[Nat.add_zero]at h9;rw[show 1+i*2=i*2+1 by omega,List.getElem?_cons_succ,h9];unfold zks;rw[if_pos ⟨h1,h2⟩];rfl
theorem zr5 (l:List zbv) (n p:Int) {k i:Nat} (h1:1≤i) (h2:i≤k) (h40:i≤40):(zah l n p k).toArray[1+i*2+1]?=some (.int .i64 (zbb l i p)):=by
 rw[List.getElem?_toArray];unfold zah;rw[show 1+i*2+1=(i*2+1)+1 by omega,List.getElem?_cons_succ,zlc l p k (by omega) (by omega)];unfold zks;rw[if_pos ⟨h1,h2⟩];rfl
end Go.Gk
namespace Go.Proofs.YtlnlghboaheemaaGreatDoor
open Go.RowKit Go.Gk
section
variable {w:World} {g n:Nat} {l:List zbv} {p:Int}
theorem zg5 (h:Blk w g 171 (zah l n p n).toArray) (x:Int):
 Calls Tryz.prog 170 #[.pointer (some ⟨g,0,none⟩),.int .i64 x] w fun e w'=>e=.returned (.bool (decide (1≤x∧x≤n)))∧w=w':=by
 have q0:w.cell? ⟨g,0,none⟩=some (.int .i64 n):=by rw[h.cell 0];exact holds_n _ _ _ _
 clear h;by_cases h1:1≤x
 ·by_cases h2:x≤n
  ·rw[decide_eq_true ⟨h1,h2⟩];go_enter Tryz.func170,Tryz.ntmps170;go_wp2;go_ret;exact⟨rfl,rfl⟩
  ·rw[decide_eq_false (fun h=>h2 h.2)];go_enter Tryz.func170,Tryz.ntmps170;go_wp2;go_ret;exact⟨rfl,rfl⟩
 ·rw[decide_eq_false (fun h=>h1 h.1)];go_enter Tryz.func170,Tryz.ntmps170;go_wp2;go_ret;exact⟨rfl,rfl⟩
theorem zu7 (h:Blk w g 171 (zah l n p n).toArray) (h40:n≤40) (x:Int):
 Calls Tryz.prog 207 #[.pointer (some ⟨g,0,none⟩),.int .i64 x] w fun e w'=>e=.returned (.int .i64 (if 1≤x∧x≤n then zbb l x p else 0))∧w=w':=by
 have HI:=Lib.hid (zg5 h x);by_cases hin:1≤x∧x≤n
 ·rw[decide_eq_true hin]at HI;rw[if_pos hin]
  obtain⟨k,rfl⟩:∃k:Nat,x=(k:Int):=⟨x.toNat,by omega⟩
  have hk0:=znn k;have hk1:(k:Int)<41:=by omega
  have hk2:k<41:=by omega
  have q0:w.cell? ⟨g,1+k*2+1,none⟩=some (.int .i64 (zbb l k p)):=by rw[h.cell _];exact zr5 _ _ _ (by omega) (by omega) (by omega)
  generalize zbb l k p=s at *;clear h hin;go_enter Tryz.func207,Tryz.ntmps207;go_wp2_with fail;refine HI.out.mono ?_;rintro _ _ ⟨rfl,rfl⟩;clear HI;go_wp2;go_ret;exact⟨rfl,rfl⟩
 ·rw[decide_eq_false hin]at HI;rw[if_neg hin];go_enter Tryz.func207,Tryz.ntmps207;go_wp2_with fail;refine HI.out.mono ?_;rintro _ _ ⟨rfl,rfl⟩;go_wp2;go_ret;exact⟨rfl,rfl⟩
theorem zl5 (h:Blk w g 171 (zah l n p n).toArray) (h40:n≤40) (x:Int):
 Calls Tryz.prog 210 #[.pointer (some ⟨g,0,none⟩),.int .i64 x] w fun e w'=>e=.returned (.int .i64 (if 1≤x∧x≤n then zam l x p else 0))∧w=w':=by
 have HI:=Lib.hid (zg5 h x);by_cases hin:1≤x∧x≤n
 ·rw[decide_eq_true hin]at HI;rw[if_pos hin]
  obtain⟨k,rfl⟩:∃k:Nat,x=(k:Int):=⟨x.toNat,by omega⟩
  have hk0:=znn k;have hk1:(k:Int)<41:=by omega
  have hk2:k<41:=by omega
  have q0:w.cell? ⟨g,1+k*2,none⟩=some (.int .i64 (zam l k p)):=by rw[h.cell _];exact holds_up _ _ _ (by omega) (by omega) (by omega)
  generalize zam l k p=s at *;clear h hin;go_enter Tryz.func210,Tryz.ntmps210;go_wp2_with fail;refine HI.out.mono ?_;rintro _ _ ⟨rfl,rfl⟩;clear HI;go_wp2;go_ret;exact⟨rfl,rfl⟩
 ·rw[decide_eq_false hin]at HI;rw[if_neg hin];go_enter Tryz.func210,Tryz.ntmps210;go_wp2_with fail;refine HI.out.mono ?_;rintro _ _ ⟨rfl,rfl⟩;go_wp2;go_ret;exact⟨rfl,rfl⟩
end
section
variable {w:World} {bv bi B t mr mp:Nat} {e a s r l n lv:Value} {fs:List Value} {b:Bks} {us:List (Ent×Value)}
theorem zmt (h:Vw w bv bi B t mr mp e a s r l n lv fs b us):
 Calls Tryz.prog 108 #[.pointer (some ⟨bv,0,none⟩)] w fun x w'=>x=.returned (.int .i64 b.accs.length)∧w=w':=by
 have hM:=zb5 h;obtain⟨Aa,ca,rfl,_,_⟩:=h.bks.accs.form;have v0:=h.view.at0;have v2:=h.seen.at2;go_enter Tryz.func108,Tryz.ntmps108;go_wp2_with fail;refine hM.mono ?_;rintro _ _ ⟨rfl,rfl⟩;clear hM;go_wp2;go_ret;exact⟨rfl,rfl⟩
theorem zdn (h:Vw w bv bi B t mr mp e a s r l n lv fs b us) {k:Nat} (hk:k<b.accs.length) (x:Int) (hx:x=(k:Int)+1):
 Calls Tryz.prog 57 #[.pointer (some ⟨bv,0,none⟩),.int .i64 x] w fun y w'=>y=.returned (.tuple #[.agg (zfq b.accs[k]).toArray,.bool true])∧Tf w w':=by
 subst hx;have tw:=tal w (.cells #[.int .i64 0,.int .i64 0,.bool false,.bool false] 117);have bA:=Blk.new w 117 #[.int .i64 0,.int .i64 0,.bool false,.bool false];have h1:=h.keep tw;have HA:=Lib.hid (zmt h1);have hacc:=h1.bks.accs;obtain⟨Aa,ca,rfl,hm1,hm2⟩:=h.bks.accs.form;obtain⟨g,o,rfl⟩:=hacc.head (by omega);obtain⟨q0,q1,q2,q3⟩:=Row.four hacc zcm hk rfl;have v0:=h1.view.at0;have v2:=h1.seen.at2;have hk':(k:Int)<(b.accs.length:Int):=by omega
 have hk0:=znn k;generalize b.accs[k]=y at *;obtain⟨y1,y2,y3,y4⟩:=y;unfold zfq;simp only at q0 q1 q2 q3⊢;clear h h1 hacc;go_enter Tryz.func57,Tryz.ntmps57;go_wp2_with fail;generalize w.alloc _=W at *;generalize hzw:w.heap.size=z at *;have HZW:=Lib.hid hzw;clear hzw;refine HA.out.mono ?_;rintro _ _ ⟨rfl,rfl⟩;clear HA;go_wp2_with (refine stH z #[.int .i64 y1,.int .i64 y2,.bool y3,.bool y4] bA ?_);intro w9 HBF HTF;clear bA v0 v2 q0 q1 q2 q3;go_wp2;(try simp only[exS]);refine zbi HBF.out ?_;exact⟨rfl,tw.trans' (F':=fun g=>g=z) HTF.out (fun i hi=>.inr (by have hi:i=z:=hi;have:=HZW.out;omega))⟩
theorem zid (h:Vw w bv bi B t mr mp e a s r l n lv fs b us) {p g:Nat} (hp:p<24) (hg:fs[p]?=some (.pointer (some ⟨g,0,none⟩))):
 Calls Tryz.prog 109 #[.pointer (some ⟨bv,0,none⟩),.int .i64 p] w fun x w'=>x=.returned (.pointer (some ⟨g,0,none⟩))∧w=w':=by
 have hM:=zb5 h;have v0:=h.view.at0
 have v8:w.cell? ⟨bi,8+p,none⟩=some (.pointer (some ⟨g,0,none⟩)):=by
  rw[h.seen.cell (8+p),List.getElem?_toArray];unfold zh9;rw[List.getElem?_append_right (by simp)];simpa using hg
 have hp':(p:Int)<24:=by omega
 have hp0:=znn p;clear h hg;go_enter Tryz.func109,Tryz.ntmps109;go_wp2_with fail;refine hM.mono ?_;rintro _ _ ⟨rfl,rfl⟩;clear hM;go_wp2;go_ret;exact⟨rfl,rfl⟩
