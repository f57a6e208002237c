/-
  The journal: all lines, one by one.
-/
import Derived.RangeFuncBound
import Derived.RangeFuncCalls
import Derived.RangeFuncLeaves
import Derived.Shelf.RegionOpen
import Derived.OwnWalkIn
import Derived.TacticsInMore
import Derived.LoopNIn
import Derived.LoopIn
import Derived.Test.YtoegobjnjljegaaGreatDoorZ18
set_option maxRecDepth 100000
set_option maxHeartbeats 6400000
namespace Go.Gk
open Go.RowKit
structure EntsLow (n₀:Nat) (w:World) (v:Value) (us:List (Ent×Value)):Prop where
 row:zae zvp 3 (fun g=>g<n₀) w v us
 lines:∀p∈us,zae zdr 4 (fun g=>g<n₀) w p.2 p.1.lines
theorem Tch.of_low {n₀:Nat} {w w':World} (h:Below n₀ w w') (hs:w.heap.size≤w'.heap.size):Tch (fun g=>n₀≤g) w w':=⟨h.os,h.tape,h.output,hs,fun k _ hn=>h.block k (by omega)⟩
theorem EntsLow.keep {n₀:Nat} {w w':World} {v:Value} {us:List (Ent×Value)} (h:EntsLow n₀ w v us) (t:Below n₀ w w'):EntsLow n₀ w' v us:=
 ⟨h.row.keepTo (Tch.of_low t t.size) fun _ _ h=>⟨by omega,h⟩,fun p hp=>(h.lines p hp).keepTo (Tch.of_low t t.size) fun _ _ h=>⟨by omega,h⟩⟩
theorem EntsIs.low {w:World} {v:Value} {us:List (Ent×Value)} (h:EntsIs w v us):EntsLow w.heap.size w v us:=
 ⟨h.row.keepTo (Tch.refl (fun _=>False) w) fun _ hk _=>⟨id,hk⟩,fun p hp=>(h.lines p hp).keepTo (Tch.refl (fun _=>False) w) fun _ hk _=>⟨id,hk⟩⟩
def come (us:List (Ent×Value)) (j k:Nat):List P7:=zsw (zeh ((us.map (·.1)).take j)++(match(us.map (·.1))[j]? with |none=>[]|some x=>(zig j x).take k))
theorem zpu {us:List (Ent×Value)} {j k:Nat} (h:j<us.length) (hk:k<us[j].1.lines.length):come us j (k+1)=come us j k++[(((come us j k).length:Int)+1,(j:Int)+1,us[j].1.period,us[j].1.lines[k])]:=by
 unfold come;have hm:(us.map (·.1))[j]?=some us[j].1:=by rw[List.getElem?_map,List.getElem?_eq_getElem h];rfl
 rw[hm];simp only;have hk':k<(zig j us[j].1).length:=by unfold zig;rw[List.length_map];exact hk
 rw[List.take_succ_eq_append_getElem hk',←List.append_assoc,zvz,znx];have he:(zig j us[j].1)[k]=((j:Int)+1,us[j].1.period,us[j].1.lines[k]):=by simp[zig]
 rw[he]
theorem zpv {us:List (Ent×Value)} {j:Nat} (h:j<us.length):come us j us[j].1.lines.length=come us (j+1) 0:=by
 unfold come;have hm:(us.map (·.1))[j]?=some us[j].1:=by rw[List.getElem?_map,List.getElem?_eq_getElem h];rfl
 have hjm:j<(us.map (·.1)).length:=by simpa using h
 rw[hm];simp only;have ht:(zig j us[j].1).take us[j].1.lines.length=zig j us[j].1:=List.take_of_length_le (by simp[zig]);rw[ht,zlb hjm,List.getElem_map];congr 1
 cases(us.map (·.1))[j+1]?<;>simp
theorem ztc (us:List (Ent×Value)):come us us.length 0=zbn (us.map (·.1)):=by
 unfold come zbn;rw[List.take_of_length_le (by simp)];congr 1
 cases(us.map (·.1))[us.length]?<;>simp
theorem zw8 {us:List (Ent×Value)} {j k:Nat} (h:j<us.length) (hk:k<us[j].1.lines.length):(come us j k).length<(zbn (us.map (·.1))).length:=by
 have hm:(us.map (·.1))[j]?=some us[j].1:=by rw[List.getElem?_map,List.getElem?_eq_getElem h];rfl
 have hjm:j<(us.map (·.1)).length:=by simpa using h
 have h1:∀(l:List Ent) (i:Nat),(zci i l).length=(zay l).length:=fun l i=>by
  have:=congrArg List.length (zej l i);simpa using this
 have h2:(zay (us.map (·.1))).length=(zay ((us.map (·.1)).take j)).length+(zay ((us.map (·.1)).drop j)).length:=by
  conv=>lhs;rw[←List.take_append_drop j (us.map (·.1))]
  unfold zay;rw[List.flatMap_append,List.length_append]
 have h3:us[j].1.lines.length≤(zay ((us.map (·.1)).drop j)).length:=by
  rw[List.drop_eq_getElem_cons hjm,List.getElem_map];unfold zay;rw[List.flatMap_cons,List.length_append,List.length_map];omega
 unfold come zbn zeh;rw[znx,znx,List.length_append,h1,h1,hm,h2];simp only[List.length_take];unfold zig;rw[List.length_map];omega
theorem come_pre (us:List (Ent×Value)) (j k:Nat):come us j k<+:zbn (us.map (·.1)):=by
 unfold come zbn
 have hz:∀(a b:List (Int×Pst)),zsw a<+:zsw (a++b):=fun a b=>by
  unfold zsw;rw[List.zipIdx_append,List.map_append];exact List.prefix_append _ _
 have hp:(zeh ((us.map (·.1)).take j)++(match(us.map (·.1))[j]? with |none=>[]|some x=>(zig j x).take k))<+:zeh (us.map (·.1)):=by
  by_cases h:j<us.length
  ·have hjm:j<(us.map (·.1)).length:=by simpa using h
   rw[List.getElem?_eq_getElem hjm];simp only
   have h1:zeh (us.map (·.1))=zeh ((us.map (·.1)).take (j+1))++zci (j+1) ((us.map (·.1)).drop (j+1)):=by
    have:∀(l:List Ent) (m i:Nat),zci i l=zci i (l.take m)++zci (i+min m l.length) (l.drop m):=fun l=>by
     induction l with
     |nil=>intro m i;simp[zci]
     |cons y r ih=>
      intro m i
      cases m with
      |zero=>simp[zci]
      |succ m=>
       simp only[List.take_succ_cons,List.drop_succ_cons,zci,List.append_assoc,List.length_cons];rw[ih m (i+1),show i+1+min m r.length=i+min (m+1) (r.length+1) by omega]
    have h2:=this (us.map (·.1)) (j+1) 0;unfold zeh;rw[h2,Nat.zero_add,Nat.min_eq_left (by omega)]
   rw[h1,zlb hjm,List.append_assoc];refine List.prefix_append_right_inj _|>.2 ?_
   exact(List.take_prefix _ _).trans (List.prefix_append _ _)
  ·have hjm:(us.map (·.1)).length≤j:=by simp;omega
   rw[List.getElem?_eq_none hjm,List.take_of_length_le hjm];simp
 obtain⟨r,hr⟩:=hp;rw[←hr];exact hz _ _
end Go.Gk
namespace Go.Proofs.YtoegobjnjljegaaGreatDoor
open Go.RowKit Go.Gk Go.Shelf
theorem each_in (F:Fence) (n:Nat) (h1:F.fn 75) (hro:F.round=none) {A:Option Addr} {k c:Nat} (w:World):
 CallsIn F n Tryz.prog 75 #[.slice A k c] w fun e w'=>e=.returned (.func (.func 160) #[] #[.pointer (some ⟨w.heap.size,0,none⟩)])∧w'=w.alloc (.cells #[.slice A k c] 27):=by
 refine callsIn_of_wp Tryz.func75 rfl h1 ?_ hro;simp only[Tryz.ntmps75,List.size_toArray,List.length_cons,List.length_nil,Nat.reduceAdd,Nat.reduceSub,Array.replicate_succ,Array.replicate_zero,List.push_toArray,List.append_toArray,List.nil_append,List.cons_append];gi_wp2
 go_ret;exact⟨rfl,rfl⟩
theorem each1_in (F:Fence) (n:Nat) (h1:F.fn 160) (hro:F.round=none) (hn:1≤n) (l Bn n₀:Nat) {v:Value} {us:List (Ent×Value)} (hul:us.length≤1000) (hll:∀p∈us,p.1.lines.length≤1000) (J Jx:List P7→World→Prop) (Kp:World→World→Prop) (hKlow:∀W1 W',Kp W1 W'→Below n₀ W1 W') (hKent:∀W1 W' k cs,Kp W1 W'→Blk W1 k 207 cs→Blk W' k 207 cs)
 (W:World) (hn0:n₀≤W.heap.size) (hJ:AbidesFrom W.heap.size J)
 (hY:∀pre x W1,J pre W1→pre.length<(zbn (us.map (·.1))).length→YieldAt F (n-1) Tryz.prog l #[.agg (zq2 x).toArray] W1 fun e W'=>
  (e=.returned (.bool true)∧J (pre++[x]) W'∧Kp W1 W')∨(e=.returned (.bool false)∧Jx (pre++[x]) W'))
 (hBn:W.cell? ⟨Bn,0,none⟩=some v) (hL:EntsLow n₀ W v us) (h0:J [] W):
 CallsIn F n Tryz.prog 160 #[.func (.yield l) #[] #[],.pointer (some ⟨Bn,0,none⟩)] W fun e W'=>(∃v,e=.returned v)∧
  ((∃ys,ys=zbn (us.map (·.1))∧J ys W')∨(∃pre,pre<+:zbn (us.map (·.1))∧Jx pre W')):=by
 obtain⟨A,c,rfl,hc1,hc2⟩:=hL.row.form;have hal:∀(pre:List P7) (W1:World) (o:Obj),J pre W1→J pre (W1.alloc o):=fun pre W1 o h=>hJ pre W1 _ none h (World.grownBy_alloc W1 o none) (fun r e=>by cases e)
 have bal:∀(W1:World) (o:Obj),n₀≤W1.heap.size→Below n₀ W1 (W1.alloc o):=fun W1 o h=>(Below.refl n₀ W1).alloc h o
 have hc00:come us 0 0=[]:=by
  unfold come
  cases(us.map (·.1))[0]?<;>simp[zeh,zci,zsw]
 have hmax:(zbn (us.map (·.1))).length≤1000000:=by
  have h2:=congrArg List.length (zbr (us.map (·.1)));rw[List.length_map]at h2;have h3:=zd6 (us.map (·.1)) 1000 (fun x hx=>by obtain⟨p,hp,rfl⟩:=List.mem_map.1 hx;exact hll p hp);rw[List.length_map]at h3;rw[h2];omega
 refine callsIn_of_wp Tryz.func160 rfl h1 ?_ hro;simp only[Tryz.ntmps160,List.size_toArray,List.length_cons,List.length_nil,Nat.reduceAdd,Nat.reduceSub,Array.replicate_succ,Array.replicate_zero,List.push_toArray,List.append_toArray,List.nil_append,List.cons_append];gi_wp2
 gi_loopw [3,10] (fun id i wr=>∃j:Nat,j≤us.length∧i=iV j∧id=iV (come us j 0).length∧J (come us j 0) wr∧Below n₀ W wr) (fun _ i _=>us.length-(intOf i).toNat)
 case atStart=>exact⟨0,Nat.zero_le _,rfl,by rw[hc00];rfl,by rw[hc00];exact h0,Below.refl _ _⟩
 case round=>
  obtain⟨j,hj,rfl,rfl,hJj,hB⟩:=hrel;by_cases hlt:j<us.length
  ·have hlt':(j:Int)<(us.length:Int):=by omega
   have hj0:=znn j;have hLr:=hL.keep hB;obtain⟨g,o,rfl⟩:=hL.row.head (by omega);obtain⟨q0,q1,q2⟩:=Row.three hLr.row zc6 hlt rfl;have HLN:=Lib.hid (hL.lines us[j] (List.getElem_mem _));have H1:=Lib.hid (fun k (hk:k<us[j].1.lines.length)=>zpu hlt hk);have H2:=Lib.hid (zpv hlt);have H3:=Lib.hid (fun k (hk:k<us[j].1.lines.length)=>zw8 hlt hk);have hyl:=hll us[j] (List.getElem_mem _);obtain⟨A',c',hfv,hd1,hd2⟩:=HLN.out.form;generalize us[j]=x at *;obtain⟨⟨yp,yr,yl⟩,yv⟩:=x;simp only at hfv q0 q1 q2 HLN H1 H2 H3 hyl;subst hfv;have hbE:=Blk.new wr 207 #[iV yp,iV yr,.slice A' yl.length c'];have hJ1:=hal _ wr (.cells #[iV yp,iV yr,.slice A' yl.length c'] 207) hJj;have hB1:=hB.trans (bal wr (.cells #[iV yp,iV yr,.slice A' yl.length c'] 207) (Nat.le_trans hn0 hB.size));have p2:=hbE.at2;gi_wp2
   clear q0 q1 q2 p2 hLr hJj;generalize wr.alloc (.cells #[iV yp,iV yr,.slice A' yl.length c'] 207)=W2 at *;generalize wr.heap.size=N at *;gi_loopw [3,18] (fun id i wr=>∃k:Nat,k≤yl.length∧i=iV k∧id=iV (come us j k).length∧J (come us j k) wr∧Below n₀ W wr∧Blk wr N 207 #[iV yp,iV yr,.slice A' yl.length c']) (fun _ i _=>yl.length-(intOf i).toNat)
   case atStart=>exact⟨0,Nat.zero_le _,rfl,rfl,hJ1,hB1,hbE⟩
   case round=>
    obtain⟨k,hk,rfl,rfl,hJk,hBk,hbk⟩:=hrel;by_cases hkl:k<yl.length
    ·have hkl':(k:Int)<(yl.length:Int):=by omega
     have hk0:=znn k
     have hlr:zae zdr 4 (fun g=>g<n₀) wr (.slice A' yl.length c') yl:=HLN.out.keepTo (Tch.of_low hBk hBk.size) fun _ _ h=>⟨by omega,h⟩
     obtain⟨g',o',rfl⟩:=hlr.head (by omega);obtain⟨q0,q1,q2,q3⟩:=Row.four hlr zbg hkl rfl;have hnx:=H1.out k hkl;have hcl:=H3.out k hkl;have hcm:((come us j k).length:Int)≤1000000:=by omega
     have hc0:(0:Int)≤((come us j k).length:Int):=Int.natCast_nonneg _;generalize yl[k]=y at *;obtain⟨a,b,d,m⟩:=y;simp only at q0 q1 q2 q3;have hJ2:=hal _ wr (.cells #[iV a,iV b,iV d,iV m] 60) hJk;have hB2:=hBk.trans (bal wr (.cells #[iV a,iV b,iV d,iV m] 60) (Nat.le_trans hn0 hBk.size));have hb2:=hbk.alloc (.cells #[iV a,iV b,iV d,iV m] 60);obtain⟨fn,tmps,assign,body,hy,hR⟩:=hY _ (((come us j k).length:Int)+1,(j:Int)+1,yp,a,b,d,m) _ hJ2 hcl;unfold zq2 at hy;dsimp only at hy
     have e0:=hb2.at0;have HNX:=Lib.hid hnx;clear hnx hcl;have hlen1:((come us j (k+1)).length:Int)=((come us j k).length:Int)+1:=by rw[HNX.out];simp
     have HLE:=Lib.hid hlen1;clear hlen1;generalize hcc:come us j k=pre at *;gi_wp2
     refine hR.mono ?_;rintro e W3 (⟨rfl,hJ3,hk3⟩|⟨rfl,hJx3⟩)
     ·gi_wp2
      go_roundw
      case rel=>exact⟨k+1,by omega,by go_num,by rw[HLE.out],by rw[HNX.out];exact hJ3,hB2.trans (hKlow _ _ hk3),hKent _ _ _ _ hk3 hb2⟩
      case measure=>simp[intOf];omega
     ·gi_wp2
      refine bodyPost_ret (results_none rfl _ _ _) rfl ?_;refine⟨⟨_,rfl⟩,.inr ⟨_,?_,hJx3⟩⟩;rw[←HNX.out];exact come_pre us j (k+1)
    ·obtain rfl:yl.length=k:=by omega
     rw[H2.out]at hJk;have HL2:=Lib.hid (congrArg List.length H2.out);gi_wp2
     go_roundw
     case rel=>exact⟨j+1,by omega,by go_num,by rw[HL2.out],hJk,hBk⟩
     case measure=>simp[intOf];omega
  ·obtain rfl:us.length=j:=by omega
   rw[ztc]at hJj;gi_wp2
   go_end0
   exact⟨⟨_,rfl⟩,.inl ⟨_,rfl,hJj⟩⟩
end Go.Proofs.YtoegobjnjljegaaGreatDoor
namespace Go.Gk
open Go.RowKit
theorem TallyIs.grown {T eR eI:TypeId} {w w':World} {B t mr mp:Nat} {ps:List Pst} {n:Int} {row:Option Nat} (h:TallyIs T eR eI w B t mr mp ps n) (hg:w.grownBy w' row) (hr:∀r,row=some r→B≤r∧∃o:Obj,w.heap[r]?=some o∧o.isCells=false):TallyIs T eR eI w' B t mr mp ps n:=by
 have tc:Tch (fun g=>row=some g) w w':=Tch.grown hg fun k hk=>.inl hk
 have hlow:∀g,g<B→¬row=some g:=fun g hg e=>by have:=(hr g e).1;omega
 have hown:∀{base k:Nat} {e:TypeId} {size m:Nat} {v:Value} {xs:List Value},w.ownsRow base e size v m xs→v.ownBlock=some k→¬row=some k:=fun{base k e size m v xs} ho hk hrow=>by
  obtain⟨_,o,h1,h2⟩:=hr k hrow
  rcases ho.2 with⟨h3,_⟩|⟨g,cap,cur,h3,_,h4,_⟩
  ·rw[h3]at hk;cases hk
  ·rw[h3]at hk;have e1:g=k:=zaz hk;subst e1;rw[h4]at h1;cases h1;cases h2
 obtain⟨R,M,ow,h1,h2,h3,h4,h5,h6⟩:=h.ex;refine⟨h.blk.keep tc (hlow _ h.lt.1),h.lt,R,M,ow,h1.keep tc (hlow _ h.lt.2.1),h2.keep tc (hlow _ h.lt.2.2),fun k=>tc.own (h3 k) fun g hg=>hown (h3 k) hg,fun k=>tc.own (h4 k) fun g hg=>hown (h4 k) hg,h5,h6⟩
end Go.Gk
namespace Go.Proofs.YtoegobjnjljegaaGreatDoor
open Go.RowKit Go.Gk Go.Shelf
attribute [local go_sem] Oper.semAt_some
theorem zuw (t:Nat) (w:World):
 Calls Tryz.prog 140 #[.pointer (some ⟨t,0,none⟩)] w fun e w'=>e=.returned (.func (.func 209) #[] #[.pointer (some ⟨w.heap.size,0,none⟩)])∧w'=w.alloc (.cells #[.pointer (some ⟨t,0,none⟩)] 130):=by
 go_enter Tryz.func140,Tryz.ntmps140;go_wp2;go_ret;exact⟨rfl,rfl⟩
def KpT (n₀:Nat) (W W':World):Prop:=Below n₀ W W'∧∀k cs,Blk W k 207 cs→Blk W' k 207 cs
theorem zux (F:Fence) (n:Nat) (h1:F.fn 160) (hro:F.round=none) (hn:1≤n) (Bn n₀:Nat) {v:Value} {us:List (Ent×Value)} (hul:us.length≤1000) (hll:∀p∈us,p.1.lines.length≤1000) (w:World) (hBn:Bn<w.heap.size) (hn0:n₀≤w.heap.size) (hc:w.cell? ⟨Bn,0,none⟩=some v) (hL:EntsLow n₀ w v us):
 SeqStopsK F n Tryz.prog 160 #[.pointer (some ⟨Bn,0,none⟩)] (fun x:P7=> #[Value.agg #[iV x.1,iV x.2.1,iV x.2.2.1,iV x.2.2.2.1,iV x.2.2.2.2.1,iV x.2.2.2.2.2.1,iV x.2.2.2.2.2.2]]) (KpT n₀) (fun ys=>ys=zbn (us.map (·.1))) (fun pre=>pre<+:zbn (us.map (·.1))) (zbn (us.map (·.1))).length w:=fun l J Jx W hW hJa _ hY h0=>
 each1_in F n h1 hro hn l Bn n₀ hul hll J Jx (KpT n₀) (fun _ _ h=>h.1) (fun _ _ k cs h hb=>h.2 k cs hb) W (Nat.le_trans hn0 hW.size) hJa hY ((hW.cell (p:=⟨Bn,0,none⟩) hBn).trans hc) (hL.keep (hW.mono hn0)) h0
theorem zpw {w:World} {v:Value} {us:List (Ent×Value)} (hu:EntsIs w v us) (hul:us.length≤60) (hll:∀p∈us,p.1.lines.length≤100):
 Calls Tryz.prog 58 #[v] w fun e w'=>∃B t mr mp,e=.returned (.pointer (some ⟨t,0,none⟩))∧(w.heap.size≤t∧w.heap.size≤mr∧w.heap.size≤mp)∧Tly w' B t mr mp (zay (us.map (·.1))) us.length∧Tf w w':=by
 obtain⟨A,c,rfl,hc1,hc2⟩:=hu.row.form;have hlow:=hu.low;have hmm:=@run_makeMap Tryz.prog
 obtain⟨W0,hW0⟩:∃W0,((((((w.alloc (.map #[] 0)).alloc (.map #[] 0)).alloc (.cells #[.map (some w.heap.size),.map (some (w.heap.size+1)),iV 0,iV 0] 233)).alloc (.cells #[.pointer (some ⟨w.heap.size+1+1,0,none⟩)] 130)).alloc (.cells #[.func (.func 209) #[] #[.pointer (some ⟨w.heap.size+1+1+1,0,none⟩)]] 234)).alloc (.cells #[.slice A us.length c] 27))=W0:=⟨_,rfl⟩
 have hz0:W0.heap.size=w.heap.size+6:=by rw[←hW0];simp
 have T0:=tal w (.map #[] 0);have T1:=tal (w.alloc (.map #[] 0)) (.map #[] 0);have T2:=tal ((w.alloc (.map #[] 0)).alloc (.map #[] 0)) (.cells #[.map (some w.heap.size),.map (some (w.heap.size+1)),iV 0,iV 0] 233);have T3:=tal (((w.alloc (.map #[] 0)).alloc (.map #[] 0)).alloc (.cells #[.map (some w.heap.size),.map (some (w.heap.size+1)),iV 0,iV 0] 233)) (.cells #[.pointer (some ⟨w.heap.size+1+1,0,none⟩)] 130);have T4:=tal ((((w.alloc (.map #[] 0)).alloc (.map #[] 0)).alloc (.cells #[.map (some w.heap.size),.map (some (w.heap.size+1)),iV 0,iV 0] 233)).alloc (.cells #[.pointer (some ⟨w.heap.size+1+1,0,none⟩)] 130)) (.cells #[.func (.func 209) #[] #[.pointer (some ⟨w.heap.size+1+1+1,0,none⟩)]] 234);have T5:=tal (((((w.alloc (.map #[] 0)).alloc (.map #[] 0)).alloc (.cells #[.map (some w.heap.size),.map (some (w.heap.size+1)),iV 0,iV 0] 233)).alloc (.cells #[.pointer (some ⟨w.heap.size+1+1,0,none⟩)] 130)).alloc (.cells #[.func (.func 209) #[] #[.pointer (some ⟨w.heap.size+1+1+1,0,none⟩)]] 234)) (.cells #[.slice A us.length c] 27);have tW0:Tf w W0:=hW0▸((((T0.trans T1).trans T2).trans T3).trans T4).trans T5;have m1:=((((MapB.new zez w).keep T1 id).keep T2 id).keep T3 id).keep (T4.trans T5) id;have m2:=(((MapB.new zez (w.alloc (.map #[] 0))).keep T2 id).keep T3 id).keep (T4.trans T5) id;have bT:=((Blk.new ((w.alloc (.map #[] 0)).alloc (.map #[] 0)) 233 #[.map (some w.heap.size),.map (some (w.heap.size+1)),iV 0,iV 0]).keep T3 id).keep (T4.trans T5) id;have bB:=(Blk.new (((w.alloc (.map #[] 0)).alloc (.map #[] 0)).alloc (.cells #[.map (some w.heap.size),.map (some (w.heap.size+1)),iV 0,iV 0] 233)) 130 #[.pointer (some ⟨w.heap.size+1+1,0,none⟩)]).keep (T4.trans T5) id;have bP:=(Blk.new ((((w.alloc (.map #[] 0)).alloc (.map #[] 0)).alloc (.cells #[.map (some w.heap.size),.map (some (w.heap.size+1)),iV 0,iV 0] 233)).alloc (.cells #[.pointer (some ⟨w.heap.size+1+1,0,none⟩)] 130)) 234 #[.func (.func 209) #[] #[.pointer (some ⟨w.heap.size+1+1+1,0,none⟩)]]).keep T5 id;have bE:=Blk.new (((((w.alloc (.map #[] 0)).alloc (.map #[] 0)).alloc (.cells #[.map (some w.heap.size),.map (some (w.heap.size+1)),iV 0,iV 0] 233)).alloc (.cells #[.pointer (some ⟨w.heap.size+1+1,0,none⟩)] 130)).alloc (.cells #[.func (.func 209) #[] #[.pointer (some ⟨w.heap.size+1+1+1,0,none⟩)]] 234)) 27 #[.slice A us.length c];rw[hW0]at m1 m2 bT bB bP bE;simp only[World.size_alloc]at m2 bT bB bP bE;clear T0 T1 T2 T3 T4 T5
 have tly0:Tly W0 (w.heap.size+6) (w.heap.size+1+1) w.heap.size (w.heap.size+1) [] 0:=
  ⟨bT,⟨by omega,by omega,by omega⟩,[],[],fun _=>none,m1,m2,(Fam.none 290 3 W0 _).congr (fun _=>rfl) (fun _=>rfl),(Fam.none 3 1 W0 _).congr (fun s=>by simp[zcd]) (fun s=>by simp[zcd]),(fun k v g h=>by cases h),fun k v g h=>by cases h⟩
 have hst:∀(a:Addr) (m:Mode) (w':World),(store a (.func (.func 209) #[] #[.pointer (some ⟨w.heap.size+1+1+1,0,none⟩)]) m).run Tryz.prog w'=stored Tryz.prog w' a (.func (.func 209) #[] #[.pointer (some ⟨w.heap.size+1+1+1,0,none⟩)]) m:=fun a m w'=>run_store Tryz.prog w' a _ m rfl
 refine(callsIn_wide (n:=6)).1 ?_;refine callsIn_of_wp_marks Tryz.func58 rfl trivial ?_ rfl;simp only[Tryz.ntmps58,List.size_toArray,List.length_cons,List.length_nil,Nat.reduceAdd,Nat.reduceSub,Array.replicate_succ,Array.replicate_zero,List.push_toArray,List.append_toArray,List.nil_append,List.cons_append]
 gi_wp2_with (first
  |(refine⟨trivial,?_⟩;gi_at_call 140;refine(callsIn_wide.2 (zuw _ _)).mono ?_;rintro e w' ⟨rfl,rfl⟩)
  |(refine⟨trivial,?_⟩;gi_at_call 75;refine(each_in Fence.wide _ trivial rfl _).mono ?_;rintro e w' ⟨rfl,rfl⟩))
 clear hst hmm
 obtain⟨x7,hx7⟩:∃x7:P7→Array Value,x7=fun x=> #[iV x.1,iV x.2.1,iV x.2.2.1,iV x.2.2.2.1,iV x.2.2.2.2.1,iV x.2.2.2.2.2.1,iV x.2.2.2.2.2.2]:=⟨_,rfl⟩
 have bel0:Below w.heap.size w W0:=⟨tW0.os,tW0.tape,tW0.output,tW0.size,fun k hk=>tW0.block k hk id⟩
 have hlow0:=hlow.keep bel0
 refine wpIn_rangeFunc_ownH rfl (by omega) (gf:=160) (lb:= #[.pointer (some ⟨w.heap.size+1+1+1+1+1,0,none⟩)]) rfl trivial (enters_of Tryz.func160 (by kernel_rfl) rfl)
  (zux Fence.wide _ trivial rfl (by omega) (w.heap.size+1+1+1+1+1) w.heap.size (by omega) (fun p hp=>by have:=hll p hp;omega) W0 (by omega) (by omega) (bE.cell 0) hlow0)
  ?kt ?kb (Below.refl _ _) (fun _=>rfl)
  (fun pre W=>(Tly W (w.heap.size+6) (w.heap.size+1+1) w.heap.size (w.heap.size+1) (pre.map (·.2.2)) 0∧W.cell? ⟨w.heap.size+1+1+1,0,none⟩=some (.pointer (some ⟨w.heap.size+1+1,0,none⟩))∧W.cell? ⟨w.heap.size+1+1+1+1,0,none⟩=some (.func (.func 209) #[] #[.pointer (some ⟨w.heap.size+1+1+1,0,none⟩)]))∧Tch (fun g=>w.heap.size≤g) W0 W)
  (fun _ _ _=>False) ?hI (fun _ _ _ _ _ hs _ _=>hs) ⟨⟨tly0,bB.cell 0,bP.cell 0⟩,Tch.refl _ _⟩
  (fun x a' W=>∃Bx,W0.heap.size≤Bx∧Blk W Bx 62 (x7 x)∧a'={tmps:= #[.slice A us.length c,undef,.pointer none,.pointer (some ⟨w.heap.size+1+1,0,none⟩),.pointer (some ⟨w.heap.size+1+1+1+1,0,none⟩),.pointer (some ⟨Bx,0,none⟩),.map (some w.heap.size),.map (some (w.heap.size+1)),.agg #[.map (some w.heap.size),.map (some (w.heap.size+1)),iV 0,iV 0],.pointer (some ⟨w.heap.size+1+1,0,none⟩),.pointer (some ⟨w.heap.size+1+1,0,none⟩),.func (.func 209) #[] #[.pointer (some ⟨w.heap.size+1+1+1,0,none⟩)],.slice A us.length c,.func (.func 160) #[] #[.pointer (some ⟨w.heap.size+1+1+1+1+1,0,none⟩)],.agg (x7 x),undef,undef,undef,undef,undef,undef,undef,undef,undef,undef,undef,undef],defers:=[]}) ?hAx ?assign ?body ?done ?stop
 case kt=>exact fun h k=>⟨h.1.trans k.1,fun g cs hb=>k.2 g cs (h.2 g cs hb)⟩
 case kb=>
  intro W l o o' hl ho hc hw;refine⟨belowK_b (w:=W0) (by omega) W l o o' hl ho hc hw,fun k cs hb=>?_⟩
  have hk:k≠l:=fun e=>by
   subst e;have h2:W.heap[k]?=some (.cells cs 207):=hb;rw[h2]at ho;cases ho;cases hc
  exact(World.putObj_heap_other hk).trans hb
 case hI=>
  rintro s W W' row ⟨⟨h1,h2,h3⟩,h4⟩ hg hr;refine⟨⟨h1.grown hg (fun r e=>by have:=hr r e;rw[hz0]at this;exact this),cell_kept h2 hg (fun r e=>(hr r e).2),cell_kept h3 hg (fun r e=>(hr r e).2)⟩,h4.trans (Tch.grown hg fun k hk=>.inl (by have:=(hr k hk).1;omega))⟩
 case hAx=>
  rintro x a' s W W' row ⟨Bx,h1,h2,h3⟩ hg hr;refine⟨Bx,h1,?_,h3⟩;have t:Tch (fun g=>row=some g) W W':=Tch.grown hg fun k hk=>.inl hk
  refine h2.keep t fun e=>?_
  obtain⟨_,o,ho,hc⟩:=hr Bx e;have h4:W.heap[Bx]?=some (.cells (x7 x) 62):=h2;rw[h4]at ho;cases ho;cases hc
 case assign=>
  rintro l pre x W K ⟨⟨h1,h2,h3⟩,h4⟩ hK;have ta:=tal W (.cells (x7 x) 62);have hsz:W0.heap.size≤W.heap.size:=h4.size;have hk:=hK _ (W.alloc (.cells (x7 x) 62)) ((KeepsOthers.alloc _ _).from _) ⟨(Below.refl _ W).alloc (by have:=h4.size;omega) _,fun k cs hb=>hb.keep ta id⟩ ⟨⟨h1.keep ta (fun _ _ h=>h.elim),ta.cell_some h2 id,ta.cell_some h3 id⟩,h4.trans (ta.mono fun _ _ h=>h.elim)⟩ ⟨W.heap.size,hsz,Blk.new W 62 _,rfl⟩;rw[hx7]at hk;dsimp only at hk
  clear hx7;gi_wp2
  exact hk
 case body=>
  rintro l pre x a' W hl hrec ⟨⟨h1,h2,h3⟩,h4⟩ ⟨Bx,hBx,hbx,rfl⟩ hlen
  have hlen1:(pre.map (·.2.2)).length<10000:=by
   have e1:=congrArg List.length (zbr (us.map (·.1)));rw[List.length_map]at e1;have e2:=zd6 (us.map (·.1)) 100 (fun x hx=>by obtain⟨p,hp,rfl⟩:=List.mem_map.1 hx;exact hll p hp);rw[List.length_map]at e2⊢;rw[e1]at hlen;omega
  have hput:=put_any h1 (by omega) hlen1 h2 (by omega) (by omega) (by have:=h4.size;omega) x.2.2.1 x.2.2.2.1 x.2.2.2.2.1 x.2.2.2.2.2.1 x.2.2.2.2.2.2;have g2:=hbx.cell 2;have g3:=hbx.cell 3;have g4:=hbx.cell 4;have g5:=hbx.cell 5;have g6:=hbx.cell 6;rw[hx7]at g2 g3 g4 g5 g6;simp at g2 g3 g4 g5 g6;have HX7:=Lib.hid hx7;rw[hx7];dsimp only
  have HP:=Lib.hid hput;clear hput hx7;gi_wp2_with (refine⟨trivial,?_⟩;gi_at_call 209;refine(CallsIn.inRound l (callsIn_wide.2 HP.out)).mono ?_;rintro e w2 ⟨rfl,hT,tt⟩)
  have hsz:=h4.size
  have nTF:∀k,k<w.heap.size∨k=w.heap.size+1+1+1∨k=w.heap.size+1+1+1+1→¬TF W (w.heap.size+6) (w.heap.size+1+1) w.heap.size (w.heap.size+1) k:=fun k hk hf=>by
   rcases hf with e|e|e|⟨e,_⟩<;>omega
  refine⟨⟨tt.size,fun k o hk hw hc=>(tt.block k (Array.getElem?_eq_some_iff.1 hw).1 (fun hf=>?_)).trans hw⟩,⟨⟨tt.os,tt.tape,tt.output,tt.size,fun k hk=>tt.block k (by omega) (nTF k (.inl hk))⟩,fun k cs hb=>hb.keep tt (fun hf=>?_)⟩,⟨?_,tt.cell_some h2 (nTF _ (.inr (.inl rfl))),tt.cell_some h3 (nTF _ (.inr (.inr rfl)))⟩,h4.trans (tt.mono fun g _ hf=>?_)⟩
  ·rcases hf with e|e|e|⟨e,cs,T,fr,h5,_⟩
   ·omega
   ·omega
   ·omega
   ·rw[h5]at hw;cases hw;cases hc
  ·obtain⟨R,M,ow,m1,m2,_⟩:=h1.ex
   rcases hf with e|e|e|⟨e,cs',T,fr,h5,h6⟩
   ·subst e;have h7:W.heap[w.heap.size+1+1]?=some (.cells cs 207):=hb;have h8:W.heap[w.heap.size+1+1]?=some (.cells _ 233):=h1.blk;rw[h8]at h7;injection h7 with h7;injection h7 with _ h7;exact absurd h7 (by decide)
   ·subst e;exact zes hb m1 rfl
   ·subst e;exact zes hb m2 rfl
   ·have h7:W.heap[k]?=some (.cells cs 207):=hb;rw[h5]at h7;injection h7 with h7;injection h7 with _ h7;subst h7;rcases h6 with h6|h6<;>exact absurd h6 (by decide)
  ·rw[List.map_append];exact hT
  ·rcases hf with e|e|e|⟨e,_⟩<;>omega
 case done=>
  rintro D ys W hD rfl ⟨⟨h1,h2,h3⟩,h4⟩ hK;have c2:=h1.blk.at2;have f2:=h1.blk.frozen 2;have hK2:=(KeepsOthers.setCell W ⟨w.heap.size+1+1,2,none⟩ (iV (us.length:Int))).same D _ hK rfl;have tS:Tch (fun g=>g=w.heap.size+1+1) W (W.setCell ⟨w.heap.size+1+1,2,none⟩ (iV (us.length:Int))):=Tch.setCell (F:=fun g=>g=w.heap.size+1+1) W (p:=⟨w.heap.size+1+1,2,none⟩) (.inl rfl) _
  have hT2:Tly (W.setCell ⟨w.heap.size+1+1,2,none⟩ (iV (us.length:Int))) (w.heap.size+6) (w.heap.size+1+1) w.heap.size (w.heap.size+1) (zay (us.map (·.1))) us.length:=by
   obtain⟨R,M,ow,m1,m2,g1,g2,o1,o2⟩:=h1.ex;rw[zbr]at g1 g2;have hb:=h1.blk.set_ 2 (iV (us.length:Int));have e1:=congrArg List.length (zbr (us.map (·.1)));rw[e1]at hb;refine⟨by simpa using hb,h1.lt,R,M,ow,m1.keep tS (fun e=>zes h1.blk m1 e.symm),m2.keep tS (fun e=>zes h1.blk m2 e.symm),g1.keep tS (fun k v g hk hg e=>?_),g2.keep tS (fun k v g hk hg e=>?_),o1,o2⟩
   ·have:=(g1.lt hk hg).1;have e:g=w.heap.size+1+1:=e;omega
   ·have:=(g2.lt hk hg).1;have e:g=w.heap.size+1+1:=e;omega
  have hsz:=h4.size;gi_wp2
  refine⟨by simp,.inl ⟨_,_,rfl,run_takeDeferred hK2,?_⟩⟩;refine⟨_,results_tmp rfl _ _ _,w.heap.size+6,w.heap.size+1+1,w.heap.size,w.heap.size+1,rfl,⟨by omega,by omega,by omega⟩,hT2.grown (grownBy_putObj' _ D _) (fun r e=>by cases e;exact⟨by omega,_,hK2,rfl⟩),?_⟩;exact(tW0.trans' (h4.trans (tS.mono fun g _ e=>by have e:g=w.heap.size+1+1:=e;omega)) (fun i hi=>.inr hi)).trans' (Tch.grown (F:=fun g=>g=D) (grownBy_putObj' _ D _) fun k e=>.inl (by cases e;rfl)) (fun i hi=>.inr (by have hi:i=D:=hi;omega))
 case stop=>
  rintro D c pre W _ _ h _;exact h.elim
open Go.RowKit Go.Gk
theorem zpx {w:World} {v:Value} {l:List zbv} (hl:zae zdr 4 (fun _=>True) w v l) (hn:l.length≤100000) (n:Nat) (h40:n≤40) (p:Nat) (h24:p<24) (hok:zan l n=true):
 Calls Tryz.prog 60 #[v,iV n,iV p] w fun e w'=>∃g,e=.returned (.tuple #[.pointer (some ⟨g,0,none⟩),iV 0])∧w.heap.size≤g∧Blk w' g 176 (zah l n p n).toArray∧Tf w w':=by
 obtain⟨A,c,rfl,hc1,hc2⟩:=hl.form;have n1:(n:Int)≤40:=by omega
 have n0:=znn n;have p1:(p:Int)<24:=by omega
 have p0:=znn p;have HC:=zkf hl hn n;rw[hok]at HC;have HC:=Lib.hid HC;have HL:=Lib.hid hl;clear hl hok;go_enter Tryz.func60,Tryz.ntmps60;go_wp2_with fail;refine HC.out.mono ?_;rintro _ w1 ⟨x,y,rfl,hy,t1⟩;obtain rfl:y=0:=by simpa using hy
 clear hy HC;have hz0:(Tryz.zeroCells176.setIfInBounds 0 (iV (n:Int)))=(zah l n p 0).toArray:=by kernel_rfl
 have hb:=Blk.new w1 176 (zah l n p 0).toArray;have tA:=tal w1 (.cells (zah l n p 0).toArray 176);have HZ0:=Lib.hid hz0;clear hz0;go_wp2_with fail;rw[HZ0.out];clear HZ0;have hl1:=HL.out.keepTo (P':=fun g=>g≠w1.heap.size) (t1.trans tA) (fun g hg _=>⟨id,by have:=t1.size;omega⟩);have HZS:=Lib.hid (show w.heap.size≤w1.heap.size from t1.size);have hsz:(w1.alloc (.cells (zah l n p 0).toArray 176)).heap.size=w1.heap.size+1:=by simp
 generalize w1.alloc (.cells (zah l n p 0).toArray 176)=W at *;generalize w1.heap.size=z at *;have tW:=t1.trans tA;clear tA HL;go_loopw [11] (fun i wr=>∃j k:Nat,k=j+1∧j≤n∧i=.int .i64 k∧Blk wr z 176 (zah l n p j).toArray∧Tch (fun g=>g=z) W wr) (fun i _=>n+1-(intOf i).toNat)
 case atStart=>exact⟨0,1,rfl,by omega,rfl,hb,Tch.refl _ _⟩
 case round=>
  obtain⟨j,k,hk,hj,rfl,hbj,ht⟩:=hrel;by_cases hlt:j<n
  ·have hkn:(k:Int)≤(n:Int):=by omega
   have hk1:(1:Int)≤(k:Int):=by omega
   have hk41:(k:Int)<41:=by omega
   have hk0:=znn k;have HK:=Lib.hid hk;have HC0:=Lib.hid (zo1 l n p hk (by omega) (r:=0) (by decide));have HC1:=Lib.hid (zo1 l n p hk (by omega) (r:=1) (by decide));have HST:=Lib.hid (zt2 l n p (k:=j) (by omega));have hlr:=fun w' (t:Tch (fun g=>g=z) wr w')=>hl1.keepTo (P':=fun _=>True) (ht.trans t) (fun g _ hp=>⟨fun e=>hp e,trivial⟩)
   have HA:=Lib.hid (fun w' (t:Tch (fun g=>g=z) wr w')=>zps (hlr w' t) hn k p);rw[←hk]at HST;clear hlr hk
   obtain⟨J,hJ⟩:∃J:Nat→World→Prop,J=fun s w'=>if s=0 then Blk w' z 176 (zah l n p j).toArray else Blk w' z 176 ((zah l n p j).toArray.setIfInBounds (1+k*2) (iV (zam l k p))):=⟨_,rfl⟩
   have HJ:=Lib.hid hJ;clear hJ;generalize zam l k p=up at *;generalize zbb l k p=sh at *;go_wp2_with fail;refine zcv (fun g=>g=z) [] 18 [(7,.inl (.tuple #[iV up,iV sh])),(15,.inr fun _ _=>True)] [(15,0)] 1 J (by kernel_rfl) rfl (by kernel_rfl) (by kernel_rfl) rfl (fun d _ _ _ _ h=>by cases d<;>exact h) ⟨fun _ _ _ _ _=>trivial,trivial⟩ (by rw[HJ.out];exact hbj.keep (Tch.drew (fun _=>False) wr) id) (fun s w1 w2 ht hj=>?_) ?_
   ·rw[HJ.out]at hj⊢;dsimp only at hj⊢
    split
    ·rename_i h0;rw[if_pos h0]at hj;exact hj.keep ht id
    ·rename_i h0;rw[if_neg h0]at hj;exact hj.keep ht id
   intro bef ops hbef hops;clear hbef;subst hops;simp only[List.take_succ_cons,List.take_zero,List.drop_succ_cons,List.drop_zero];iterate 7 (refine zib (by rfl) (by rfl) (by rfl) (by rfl) (fun K hK=>?_);go_big_quiet_op;(first|refine hK _ ?_|refine⟨_,fun _=>rfl,hK _ ?_⟩);clear hK K;(try simp only[Act.put,List.setIfInBounds_toArray,List.set_cons_succ,List.set_cons_zero]))
   refine z4u _ (by rfl) (by rfl) (by rfl) (fun w2 hr hf=>?_) ?_
   ·refine zaa (d:=51) rfl (by simp) (fun K hK=>?_);go_step;refine(HA.out w2 ((Tch.drew _ wr).trans hr)).mono ?_;rintro _ w3 ⟨rfl,t3⟩;exact hK _ _ ⟨rfl,t3⟩
   simp only[zaw];iterate 7 (refine zib (by rfl) (by rfl) (by rfl) (by rfl) (fun K hK=>?_);go_big_quiet_op;(first|refine hK _ ?_|refine⟨_,fun _=>rfl,hK _ ?_⟩);clear hK K;(try simp only[Act.put,List.setIfInBounds_toArray,List.set_cons_succ,List.set_cons_zero]))
   refine z7u 0 (by rfl) (by rfl) (by rfl) (fun w2 hr hj hf=>?_) (fun _=>?_)
   ·rw[HJ.out]at hj;have hj':Blk w2 z 176 (zah l n p j).toArray:=hj;have c0:=hj'.cell (1+k*2);rw[List.getElem?_toArray,show(zah l n p j)[1+k*2]?=some (iV 0)from HC0.out]at c0;have f0:=hj'.frozen (1+k*2);clear hj;refine ziz (fun K hK=>?_);go_step;refine hK _ ⟨Tch.setCell (F:=fun g=>g=z) w2 (p:=⟨z,1+k*2,none⟩) (.inl rfl) _,?_⟩;rw[HJ.out];exact hj'.set_ _ _
   simp only[Act.put];iterate 2 (refine zib (by rfl) (by rfl) (by rfl) (by rfl) (fun K hK=>?_);go_big_quiet_op;(first|refine hK _ ?_|refine⟨_,fun _=>rfl,hK _ ?_⟩);clear hK K;(try simp only[Act.put,List.setIfInBounds_toArray,List.set_cons_succ,List.set_cons_zero]))
   refine zxa ?_;intro w2 hr hj _;rw[HJ.out]at hj;have hj':Blk w2 z 176 ((zah l n p j).toArray.setIfInBounds (1+k*2) (iV up)):=hj;have c1:=hj'.cell (1+k*2+1);have f1:=hj'.frozen (1+k*2+1);rw[List.setIfInBounds_toArray,List.getElem?_toArray,List.getElem?_set_ne (by omega),HC1.out]at c1;have hfin:=hj'.set_ (1+k*2+1) (iV sh);rw[List.setIfInBounds_toArray,List.setIfInBounds_toArray,HST.out]at hfin;have tf:=(ht.trans ((Tch.drew (fun g=>g=z) wr).trans hr)).trans (Tch.setCell (F:=fun g=>g=z) w2 (p:=⟨z,1+k*2+1,none⟩) (.inl rfl) (iV sh));clear hj hr;go_wp2;go_roundw
   case rel=>exact⟨j+1,k+1,by have:=HK.out;omega,by omega,by go_num,by rw[←HK.out];exact hfin,tf⟩
   case measure=>have:=HK.out;simp[intOf];omega
  ·obtain rfl:j=n:=by omega
   have hkn:¬(k:Int)≤(j:Int):=by omega
   go_wp2;go_ret2
   exact⟨z,rfl,HZS.out,hbj,tW.trans' ht (fun i hi=>.inr (by have hi:i=z:=hi;have:=HZS.out;omega))⟩
end Go.Proofs.YtoegobjnjljegaaGreatDoor
namespace Go.Gk
open Go.RowKit
def Kept (F:Nat→Prop) (C:Addr→Prop) (a b:World):Prop:=Tch F a b∧∀c u,C c→a.cell? c=some u→b.cell? c=some u
theorem Kept.refl (F:Nat→Prop) (C:Addr→Prop) (w:World):Kept F C w w:=⟨Tch.refl F w,fun _ _ _ h=>h⟩
theorem Kept.trans {F:Nat→Prop} {C:Addr→Prop} {a b c:World} (h:Kept F C a b) (k:Kept F C b c):Kept F C a c:=⟨h.1.trans k.1,fun d u hd hu=>k.2 d u hd (h.2 d u hd hu)⟩
theorem Kept.of {F:Nat→Prop} {C:Addr→Prop} {a b:World} (t:Tf a b):Kept F C a b:=⟨Exn.touch t,fun _ _ _ hu=>t.cell_some hu id⟩
theorem zpy {F:Nat→Prop} {C:Addr→Prop} {W:World} {a:Addr} {u:Value} (h:W.cell? a=some u) (hc:C a):∀b L (p:Within (Kept F C) W.drew b L),p.w.cell? a=some u:=fun _ _ p=>p.hr.2 a u hc h
@[reducible] def zeg (F:Nat→Prop) (C:Addr→Prop) (ops:Array Oper) (bef:Array Nat) (Vs:List (Nat×Sum Value (Value→World→Prop))) (sps:List (Nat×Nat)) (J:Nat→World→Prop) (w0:World):Env:=
 {ops:=ops,bef:=bef,R:=Kept F C,R0:=Tf,J:=J,w0:=w0,ks:=fun k=>Vs.lookup k,sp:=fun k=>sps.lookup k,fr:=fun _=>false}
section
variable {P:Program} {F:Nat→Prop} {C:Addr→Prop} {ops:Array Oper} {bef:Array Nat} {Vs:List (Nat×Sum Value (Value→World→Prop))} {sps:List (Nat×Nat)} {J:Nat→World→Prop} {w0:World} {fin:Act→List (Nat×(World→Prop))→Prop} {o:Oper} {rest:List Oper} {k:Nat} {a:Act} {L:List (Nat×(World→Prop))}
theorem k_det (hw:Region.wanted o (yielded ops a.tmps)=true) (hk:Vs.lookup k=none) (hs:sps.lookup k=none) (hp:zgu o.op=true)
 (h:∀K:Act→Prop,(∀a',(zeg F C ops bef Vs sps J w0).head P fin rest (k+1) a' L→K a')→o.quiet P a (fun w'=>∃p:Within (Kept F C) w0 (bef.getD k 0) L,w'=p.w) K):(zeg F C ops bef Vs sps J w0).head P fin (o::rest) k a L:=
 znz (E:=zeg F C ops bef Vs sps J w0) hw hk hs rfl hp h
theorem zrx {V:Value→World→Prop} (hw:Region.wanted o (yielded ops a.tmps)=true) (hk:Vs.lookup k=some (.inr V)) (hs:sps.lookup k=none)
 (h:∀w,Kept F C w0 w→zfo (bef.getD k 0) L w→za8 P o a w (fun v w'=>V v w'∧Tf w w')) (h2:∀v,(zeg F C ops bef Vs sps J w0).head P fin rest (k+1) (a.put o.dst v) ((k,V v)::L)):(zeg F C ops bef Vs sps J w0).head P fin (o::rest) k a L:=
 zjj (E:=zeg F C ops bef Vs sps J w0) V hw hk hs (fun w hr hf=>zcs (fun _ _ h=>⟨h,zaf⟩) (h w hr hf)) h2
theorem k_eff (s:Nat) (hw:Region.wanted o (yielded ops a.tmps)=true) (hk:Vs.lookup k=some (.inr fun _ _=>True)) (hs:sps.lookup k=some s)
 (h:∀w,Kept F C w0 w→J s w→zfo (bef.getD k 0) L w→za8 P o a w (fun _ w'=>Kept F C w w'∧J (s+1) w')) (h2:∀v,(zeg F C ops bef Vs sps J w0).head P fin rest (k+1) (a.put o.dst v) ((k,fun _=>True)::L)):(zeg F C ops bef Vs sps J w0).head P fin (o::rest) k a L:=
 zf8 (E:=zeg F C ops bef Vs sps J w0) (fun _ _=>True) s hw hk hs (fun w hr hj hf=>zcs (fun _ _ h=>⟨⟨trivial,h⟩,zaf⟩) (h w hr hj hf)) h2
theorem k_nil (h:fin a L):(zeg F C ops bef Vs sps J w0).head P fin [] k a L:=h
end
theorem zms {P:Program} (F:Nat→Prop) (C:Addr→Prop) {id:Nat} {Q:Exit→Act→World→Prop} {a:Act} {w:World} {l:List Oper} (pre:List Nat) (n:Nat) (Vs:List (Nat×Sum Value (Value→World→Prop))) (sps:List (Nat×Nat)) (m:Nat) (J:Nat→World→Prop) (hm:P.follows .mixedOrders=true)
 (hn:(decide (n≤l.length))=true) (hc:zj9 pre l.toArray (fun k=>sps.lookup k) n a.tmps.size=true) (hs:z3r sps n m=true) (hpk:(pre.all fun i=>(Vs.lookup i).isNone)=true) (hQ:∀d v c a w,Q (.panic c) (a.put d v) w→Q (.panic c) a w) (hV:Stable (Kept F C) Vs)
 (hJ0:J 0 w.drew) (hJ:∀s a b,Tf a b→J s a→J s b)
 (h:∀(bef:Array Nat) (ops:Array Oper),bef=Region.before l.toArray→ops=l.toArray→(zeg F C ops bef Vs sps J w.drew).head P (fun a' L=>∀w',Kept F C w.drew w'→J m w'→(∀p∈L,p.2 w')→wpList P l.toArray Q (l.drop n) a' w') (l.take n) 0 a []):(Code.region id l.toArray true).wp P Q a w:=by
 simp only[zj9,Bool.and_eq_true]at hc;obtain⟨⟨⟨⟨⟨⟨⟨c1,c2⟩,c3⟩,c4⟩,c5⟩,c6⟩,c7⟩,c8⟩:=hc;simp only[z3r,Bool.and_eq_true,List.all_eq_true,List.mem_range,Bool.or_eq_true,List.any_eq_true,beq_iff_eq]at hs
 refine zf6 (E:=zeg F C l.toArray (Region.before l.toArray) Vs sps J w.drew) (n:=n) (m:=m) pre hm rfl rfl ⟨fun _ _ h=>h.1.size,Kept.refl F C,fun _ _ _ h k=>h.trans k,fun _ _ h=>Kept.of h,hJ,hV.spec,c1,c2,c3,c4,c5,c6⟩ rfl (of_decide_eq_true hn) c7 (by simpa using c8)
  (fun i hi=>by have:=List.all_eq_true.1 hpk i hi;simpa using this) (fun i hi=>rfl) hQ ⟨fun k s' hk h=>?_,hs.2.imp (fun h=>h) (fun⟨k,h1,h2⟩=>⟨k,h1,h2⟩)⟩ hJ0 ?_
 ·have h':sps.lookup k=some s':=h;have:=hs.1 k hk;rw[h']at this;simpa using this
 ·exact zea (fun a' L' hf w' hr hj hp _=>hf w' hr hj hp) _ _ _ _ _ (h _ _ rfl rfl)
