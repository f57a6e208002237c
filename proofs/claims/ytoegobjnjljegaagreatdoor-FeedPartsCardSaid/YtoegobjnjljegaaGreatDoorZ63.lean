/-
  The document's: a number put into a rising row.
-/
import Derived.Test.YtoegobjnjljegaaGreatDoorZ64
set_option maxRecDepth 100000
set_option maxHeartbeats 6400000
namespace Go.Gk.V33
open Go.RowKit
theorem zak {P:Program} (w:World) {ops:Array Oper} {o:Oper} {a:Act} {K:Act→World→Prop} {Q:Exit→Act→World→Prop} {E:Prop} (hgd:o.guard=none) (s x:Operand) (t:TypeId)
 (ho:o.op=.call {callee:=.builtin .append,args:= #[s,x],argTypes:= #[t,t]})
 {e:TypeId} {z:Value} {size bytes:Nat} (T:RowTy P t e z size bytes) {v:Value} {n:Nat} {xs:List Value} (hown:w.ownsRow 0 e size v n xs) (hv:a.eval s=v)
 {ao:Option Addr} {m c:Nat} {news:List Value} (hs:Src w ao m c size news) (hx:a.eval x=.slice ao m c) (h1:∀u∈news,u.oneCell'=true)
 (h63:n+m≤maxLen) (hbytes:(n+m)*bytes≤140737488355328)
 (h:∀v' w',w'.ownsRow 0 e size v' (n+m) (xs++news)→w.grownBy w' v.ownBlock→(∀g,v'.ownBlock=some g→v.ownBlock=some g∨w.heap.size≤g)→K (a.put o.dst v') w'):
 if Region.wanted o (yielded ops a.tmps)=true then Oper.wp P o a w K Q else E:=by
 have hw:Region.wanted o (yielded ops a.tmps)=true:=by simp[Region.wanted,hgd]
 rw[if_pos hw];obtain⟨v',w',hr,h2,h3,h4⟩:=zhh w T o.type hown hs h1 h63 hbytes;unfold Oper.wp execOp;simp only[ho,resolve,invoke,builtin,Sem.run_bind,Sem.run_pure,Result.andThen_ok,List.map_toArray,List.map_cons,List.map_nil,hv,hx,hr];exact h v' w' h2 h3 h4
def zdq:List Int→Int→List Int
 |[],n=>[n]
 |x::r,n=>if x<n then x::zdq r n else if x=n then x::r else n::x::r
theorem ztr {q n:Int}:∀xs:List Int,q∈zdq xs n↔q∈xs∨q=n
 |[]=>by simp[zdq]
 |x::r=>by
  unfold zdq;by_cases h1:x<n
  ·rw[if_pos h1,List.mem_cons,List.mem_cons,ztr r,or_assoc]
  ·rw[if_neg h1];by_cases h2:x=n
   ·subst h2;rw[if_pos rfl,List.mem_cons];constructor
    ·exact .inl
    ·rintro(h|h)
     ·exact h
     ·exact .inl h
   ·rw[if_neg h2,List.mem_cons];exact or_comm
theorem with_len (xs:List Int) (n:Int):(zdq xs n).length≤xs.length+1:=by
 induction xs with
 |nil=>simp[zdq]
 |cons x r ih=>
  unfold zdq;split
  ·simp only[List.length_cons];omega
  ·split
   ·simp
   ·simp
theorem zyb {xs:List Int} {n:Int} {j:Nat} (h:j<xs.length):zdq (xs.drop j) n=if xs[j]<n then xs[j]::zdq (xs.drop (j+1)) n else if xs[j]=n then xs.drop j else n::xs.drop j:=by
 rw[List.drop_eq_getElem_cons h];rfl
theorem zqr (l:List Int):∀u∈l.flatMap zby,u.oneCell'=true:=by
 intro u hu;obtain⟨x,_,hx⟩:=List.mem_flatMap.1 hu;simp[zby]at hx;subst hx;rfl
theorem zbz (x:Int):∀u∈[Value.int .i64 x],u.oneCell'=true:=by
 intro u hu;rw[List.mem_singleton]at hu;subst hu;rfl
end Go.Gk.V33
namespace Go.Proofs.YtoegobjnjljegaaGreatDoor
open Go.RowKit Go.Gk Go.Gk.V33
theorem zqs {w0 w w':World} {u:Value} {xs:List Int} {x:Int} {j:Nat} (hT0:Tf w0 w) (hj:j≤xs.length) (he:zdq xs x=xs.take j++x::xs.drop j) (hown:w'.ownsRow 0 3 1 u (j+1+(xs.length-j)) ((xs.take j).flatMap zby++[.int .i64 x]++(xs.drop j).flatMap zby)) (hb:∀g,u.ownBlock=some g→w.heap.size≤g) (t:Tch (fun k=>w.heap.size≤k) w w'):zet w0 w' u (zdq xs x)∧Tf w w':=by
 refine⟨⟨zbk ?_ fun g hg=>Nat.le_trans hT0.size (hb g hg),hT0.trans' t (fun i hi=>.inr (Nat.le_trans hT0.size hi))⟩,(Tch.refl _ w).trans' t (fun i hi=>.inr hi)⟩;rw[he]
 have e1:(xs.take j++x::xs.drop j).length=j+1+(xs.length-j):=by
  rw[List.length_append,List.length_cons,List.length_take,List.length_drop];omega
 have e2:(xs.take j++x::xs.drop j).flatMap zby=(xs.take j).flatMap zby++[.int .i64 x]++(xs.drop j).flatMap zby:=by
  rw[List.flatMap_append,List.flatMap_cons,List.append_assoc];rfl
 rw[e1,e2];exact hown
theorem zqt {w0 w:World} {g c:Nat} {xs:List Int} (hO:zet w0 w (.slice (some ⟨g,0,none⟩) xs.length c) xs) (hx0:xs≠[]) (hlc:xs.length≤c) (hn:xs.length≤100000) (x:Int):
 Calls Tryz.prog 19 #[.slice (some ⟨g,0,none⟩) xs.length c,.int .i64 x] w fun y w'=>∃u,y=.returned u∧zet w0 w' u (zdq xs x)∧Tf w w':=by
 have hk:zae zby 1 (fun h=>h<w.heap.size) w (.slice (some ⟨g,0,none⟩) xs.length c) xs:=Row.own hO.own fun g hg=>(hO.own.lt g hg).2
 have HO:=Lib.hid hO;have hl0:0<xs.length:=List.length_pos_iff.2 hx0;have hc0:¬c=0:=by omega
 have HWD:=Lib.hid (fun j (hj:j<xs.length)=>zyb (n:=x) hj)
 have hbn:∀(W:World) (N:Nat),N=W.heap.size→∀j u,([Value.int .i64 x])[j]?=some u→(W.alloc (.cells #[.int .i64 x] 3)).cell? ⟨N,j,none⟩=some u:=fun W N e j u hu=>by
  rw[e,(Blk.new W 3 #[.int .i64 x]).cell j];simpa using hu
 have hmd:∀(W:World) (N:Nat),N=W.heap.size→(W.alloc (.cells #[] 3)).ownsRow 0 3 1 (.slice (some ⟨N,0,none⟩) 0 0) 0 []:=fun W N e=>by
  rw[e];exact zb8 (zel W 3 1 0 #[] (Nat.zero_le _) rfl)
 have HFIN:=Lib.hid (fun(j:Nat) (hj:j≤xs.length) (he:zdq xs x=xs.take j++x::xs.drop j) (w':World) (u:Value) (hown:w'.ownsRow 0 3 1 u (j+1+(xs.length-j)) ((xs.take j).flatMap zby++[.int .i64 x]++(xs.drop j).flatMap zby)) (hb:∀g,u.ownBlock=some g→w.heap.size≤g) (t:Tch (fun k=>w.heap.size≤k) w w')=>zqs hO.tch hj he hown hb t);clear hO hx0;go_enter Tryz.func19,Tryz.ntmps19;go_wp2_with fail;go_loopw [5] (fun k wr=>∃j:Nat,j≤xs.length∧k=.int .i64 j∧zdq xs x=xs.take j++zdq (xs.drop j) x∧w=wr) (fun k _=>xs.length-(intOf k).toNat)
 case atStart=>exact⟨0,Nat.zero_le _,rfl,by simp,rfl⟩
 case round=>
  obtain⟨j,hj,rfl,hw,rfl⟩:=hrel;have HW:=Lib.hid hw;have hj0:=znn j;have hkt:=Row.takes' zap hk hj;have hlt9:(xs.take j).length=j:=by rw[List.length_take];omega
  unfold zae at hkt;rw[hlt9]at hkt;have hkd0:=Row.cuts zap hk hj (Nat.le_refl _);rw[List.take_of_length_le (by rw[List.length_drop];omega)]at hkd0;have HF1:=Lib.hid (fun he=>HFIN.out j hj he)
  obtain⟨ms,hms⟩:∃ms,(xs.take j).flatMap zby=ms:=⟨_,rfl⟩
  have HMS:=Lib.hid (show∀u∈ms,u.oneCell'=true by rw[←hms];exact zqr _);rw[hms]at hkt HF1
  obtain⟨ds,hds⟩:∃ds,(xs.drop j).flatMap zby=ds:=⟨_,rfl⟩
  have HDS:=Lib.hid (show∀u∈ds,u.oneCell'=true by rw[←hds];exact zqr _);rw[hds]at hkd0 HF1
  have hif:(if j=0 then(⟨g,0,none⟩:Addr)else⟨g,j,none⟩)=⟨g,j,none⟩:=by
   by_cases h9:j=0<;>simp[h9]
  have hjc:(j:Int)≤(c:Int):=by omega
  have hjl:(j:Int)≤(xs.length:Int):=by omega
  have hlc9:(xs.length:Int)≤(c:Int):=by omega
  clear hw hms hds hlt9 HFIN;by_cases hlt:j<xs.length
  rotate_left;have hje:j=xs.length:=by omega
  have HF2:=Lib.hid (HF1.out (by rw[HW.out,hje,List.drop_length];rfl));have hlt':¬(j:Int)<(xs.length:Int):=by omega
  clear HW HWD HF1 hje hk;by_cases hcj:c=j
  ·subst c;have hkd:Row (fun h=>h<w.heap.size) w (.slice (some ⟨g,0,none⟩) (xs.length-j) 0) (xs.length-j) 1 ds:=by simpa[sliced]using hkd0
   go_wp2_with fail;clear hkd0 hlt hlt' hlc hlc9
   go_region_held3 (fun _=>True)
    (first|go_keep|exact trivial|trivial)
    (first
     |(refine zak _ (by rfl) (.tmp 33) (.tmp 36) _ (by rfl) zaj ((Tch.drew (fun _=>False) _).own (hmd w w.heap.size rfl) (fun _ _=>id)) (by rfl) ((hkt.keep (by repeat(first|exact Tch.refl _ _|refine Tch.trans ?_ (Tch.drew _ _)|refine Tch.trans ?_ (Tch.alloc _ _ _)))).src) (by rfl) HMS.out (by unfold maxLen;omega) (by omega) ?_;intro v2 w2 ho2 hg2 hl2;rw[Nat.zero_add,List.nil_append]at ho2;obtain⟨A2,c2,rfl,_,_,_⟩:=zac ho2;have t2:Tch (fun k=>w.heap.size≤k) w w2:=Tch.trans (by repeat(first|exact Tch.refl _ _|refine Tch.trans ?_ (Tch.drew _ _)|refine Tch.trans ?_ (Tch.alloc _ _ _))) (Tch.grown hg2 (fun k e=>.inl (by have e':=zaz e;omega)));have n2:∀k,(Value.slice A2 j c2).ownBlock=some k→w.heap.size≤k:=fun k e=>(hl2 k e).elim (fun h=>by have e':=zaz h;omega) (fun h=>by(try simp at h);omega))
     |(refine zak _ (by rfl) (.tmp 33) (.tmp 36) _ (by rfl) zaj (((tal _ _).trans (Tch.drew _ _)).own (hmd w w.heap.size rfl) (fun _ _=>id)) (by rfl) ((hkt.keep (by repeat(first|exact Tch.refl _ _|refine Tch.trans ?_ (Tch.drew _ _)|refine Tch.trans ?_ (Tch.alloc _ _ _)))).src) (by rfl) HMS.out (by unfold maxLen;omega) (by omega) ?_;intro v2 w2 ho2 hg2 hl2;rw[Nat.zero_add,List.nil_append]at ho2;obtain⟨A2,c2,rfl,_,_,_⟩:=zac ho2;have t2:Tch (fun k=>w.heap.size≤k) w w2:=Tch.trans (by repeat(first|exact Tch.refl _ _|refine Tch.trans ?_ (Tch.drew _ _)|refine Tch.trans ?_ (Tch.alloc _ _ _))) (Tch.grown hg2 (fun k e=>.inl (by have e':=zaz e;omega)));have n2:∀k,(Value.slice A2 j c2).ownBlock=some k→w.heap.size≤k:=fun k e=>(hl2 k e).elim (fun h=>by have e':=zaz h;omega) (fun h=>by(try simp at h);omega))
     |(refine zak _ (by rfl) (.tmp 33) (.tmp 36) _ (by rfl) zaj ((Tch.drew (fun _=>False) _).own (hmd (w.alloc (.cells #[.int .i64 x] 3)) (w.heap.size+1) (by simp)) (fun _ _=>id)) (by rfl) ((hkt.keep (by repeat(first|exact Tch.refl _ _|refine Tch.trans ?_ (Tch.drew _ _)|refine Tch.trans ?_ (Tch.alloc _ _ _)))).src) (by rfl) HMS.out (by unfold maxLen;omega) (by omega) ?_;intro v2 w2 ho2 hg2 hl2;rw[Nat.zero_add,List.nil_append]at ho2;obtain⟨A2,c2,rfl,_,_,_⟩:=zac ho2;have t2:Tch (fun k=>w.heap.size≤k) w w2:=Tch.trans (by repeat(first|exact Tch.refl _ _|refine Tch.trans ?_ (Tch.drew _ _)|refine Tch.trans ?_ (Tch.alloc _ _ _))) (Tch.grown hg2 (fun k e=>.inl (by have e':=zaz e;omega)));have n2:∀k,(Value.slice A2 j c2).ownBlock=some k→w.heap.size≤k:=fun k e=>(hl2 k e).elim (fun h=>by have e':=zaz h;omega) (fun h=>by(try simp at h);omega))
     |(refine zak _ (by rfl) (.tmp 37) (.tmp 39) _ (by rfl) zaj (by first|exact ho2|exact ho2.alloc _) (by rfl) (Go.Gk.Src.one (g:=w2.heap.size) (news:=[.int .i64 x]) rfl (fun j u hu=>hbn w2 _ rfl j u hu)) (by rfl) (zbz _) (by unfold maxLen;omega) (by omega) ?_;intro v6 w6 ho6 hg6 hl6;obtain⟨A6,c6,rfl,_,_,_⟩:=zac ho6;have t6:Tch (fun k=>w.heap.size≤k) w w6:=t2.trans (Tch.trans (by repeat(first|exact Tch.refl _ _|refine Tch.trans ?_ (Tch.drew _ _)|refine Tch.trans ?_ (Tch.alloc _ _ _))) (Tch.grown hg6 (fun k e=>.inl (n2 k e))));have n6:∀k,(Value.slice A6 (j+1) c6).ownBlock=some k→w.heap.size≤k:=fun k e=>(hl6 k e).elim (n2 k) (fun h=>by have:=t2.size;(try simp at h);omega))
     |(refine zak _ (by rfl) (.tmp 37) (.tmp 39) _ (by rfl) zaj (by first|exact ho2|exact ho2.alloc _) (by rfl) (Go.Gk.Src.one (g:=w.heap.size+1) (news:=[.int .i64 x]) rfl (fun j u hu=>(Tch.grown (F:=fun k=>k=w.heap.size) hg2 (fun k e=>.inl (zaz e).symm)).cell_some (hbn (w.alloc (.cells #[] 3)) _ (by simp) j u hu) (by show¬w.heap.size+1=w.heap.size;omega))) (by rfl) (zbz _) (by unfold maxLen;omega) (by omega) ?_;intro v6 w6 ho6 hg6 hl6;obtain⟨A6,c6,rfl,_,_,_⟩:=zac ho6;have t6:Tch (fun k=>w.heap.size≤k) w w6:=t2.trans (Tch.trans (by repeat(first|exact Tch.refl _ _|refine Tch.trans ?_ (Tch.drew _ _)|refine Tch.trans ?_ (Tch.alloc _ _ _))) (Tch.grown hg6 (fun k e=>.inl (n2 k e))));have n6:∀k,(Value.slice A6 (j+1) c6).ownBlock=some k→w.heap.size≤k:=fun k e=>(hl6 k e).elim (n2 k) (fun h=>by have:=t2.size;(try simp at h);omega))
     |(refine zak _ (by rfl) (.tmp 37) (.tmp 39) _ (by rfl) zaj (by first|exact ho2|exact ho2.alloc _) (by rfl) (Go.Gk.Src.one (g:=w.heap.size) (news:=[.int .i64 x]) rfl (fun j u hu=>(Tch.grown (F:=fun k=>k=w.heap.size+1) hg2 (fun k e=>.inl (zaz e).symm)).cell_some ((tal _ _).cell_some (hbn w _ rfl j u hu) id) (by show¬w.heap.size=w.heap.size+1;omega))) (by rfl) (zbz _) (by unfold maxLen;omega) (by omega) ?_;intro v6 w6 ho6 hg6 hl6;obtain⟨A6,c6,rfl,_,_,_⟩:=zac ho6;have t6:Tch (fun k=>w.heap.size≤k) w w6:=t2.trans (Tch.trans (by repeat(first|exact Tch.refl _ _|refine Tch.trans ?_ (Tch.drew _ _)|refine Tch.trans ?_ (Tch.alloc _ _ _))) (Tch.grown hg6 (fun k e=>.inl (n2 k e))));have n6:∀k,(Value.slice A6 (j+1) c6).ownBlock=some k→w.heap.size≤k:=fun k e=>(hl6 k e).elim (n2 k) (fun h=>by have:=t2.size;(try simp at h);omega))
     |(refine zak _ (by rfl) (.tmp 40) (.tmp 43) _ (by rfl) zaj ho6 (by rfl) (hkd.keepTo t6 (fun _ h9 h8=>⟨by omega,h8⟩)).src (by rfl) HDS.out (by unfold maxLen;omega) (by omega) ?_;intro v8 w8 ho8 hg8 hl8;obtain⟨A8,c8,rfl,_,_,_⟩:=zac ho8;have t8:Tch (fun k=>w.heap.size≤k) w w8:=t6.trans (Tch.grown hg8 (fun k e=>.inl (n6 k e)));have n8:=fun k e=>(hl8 k e).elim (n6 k) (fun h=>by have:=t6.size;(try simp at h);omega))
     )
   all_goals
    go_wp2;go_ret;exact⟨_,rfl,HF2.out _ _ ho8 n8 t8⟩
  ·have hkd:Row (fun h=>h<w.heap.size) w (.slice (some ⟨g,j,none⟩) (xs.length-j) (c-j)) (xs.length-j) 1 ds:=by simpa[sliced,hcj,Addr.add,hif]using hkd0
   go_wp2_with fail;clear hkd0 hlt hlt'
   go_region_held3 (fun _=>True)
    (first|go_keep|exact trivial|trivial)
    (first
     |(refine zak _ (by rfl) (.tmp 33) (.tmp 36) _ (by rfl) zaj ((Tch.drew (fun _=>False) _).own (hmd w w.heap.size rfl) (fun _ _=>id)) (by rfl) ((hkt.keep (by repeat(first|exact Tch.refl _ _|refine Tch.trans ?_ (Tch.drew _ _)|refine Tch.trans ?_ (Tch.alloc _ _ _)))).src) (by rfl) HMS.out (by unfold maxLen;omega) (by omega) ?_;intro v2 w2 ho2 hg2 hl2;rw[Nat.zero_add,List.nil_append]at ho2;obtain⟨A2,c2,rfl,_,_,_⟩:=zac ho2;have t2:Tch (fun k=>w.heap.size≤k) w w2:=Tch.trans (by repeat(first|exact Tch.refl _ _|refine Tch.trans ?_ (Tch.drew _ _)|refine Tch.trans ?_ (Tch.alloc _ _ _))) (Tch.grown hg2 (fun k e=>.inl (by have e':=zaz e;omega)));have n2:∀k,(Value.slice A2 j c2).ownBlock=some k→w.heap.size≤k:=fun k e=>(hl2 k e).elim (fun h=>by have e':=zaz h;omega) (fun h=>by(try simp at h);omega))
     |(refine zak _ (by rfl) (.tmp 33) (.tmp 36) _ (by rfl) zaj (((tal _ _).trans (Tch.drew _ _)).own (hmd w w.heap.size rfl) (fun _ _=>id)) (by rfl) ((hkt.keep (by repeat(first|exact Tch.refl _ _|refine Tch.trans ?_ (Tch.drew _ _)|refine Tch.trans ?_ (Tch.alloc _ _ _)))).src) (by rfl) HMS.out (by unfold maxLen;omega) (by omega) ?_;intro v2 w2 ho2 hg2 hl2;rw[Nat.zero_add,List.nil_append]at ho2;obtain⟨A2,c2,rfl,_,_,_⟩:=zac ho2;have t2:Tch (fun k=>w.heap.size≤k) w w2:=Tch.trans (by repeat(first|exact Tch.refl _ _|refine Tch.trans ?_ (Tch.drew _ _)|refine Tch.trans ?_ (Tch.alloc _ _ _))) (Tch.grown hg2 (fun k e=>.inl (by have e':=zaz e;omega)));have n2:∀k,(Value.slice A2 j c2).ownBlock=some k→w.heap.size≤k:=fun k e=>(hl2 k e).elim (fun h=>by have e':=zaz h;omega) (fun h=>by(try simp at h);omega))
     |(refine zak _ (by rfl) (.tmp 33) (.tmp 36) _ (by rfl) zaj ((Tch.drew (fun _=>False) _).own (hmd (w.alloc (.cells #[.int .i64 x] 3)) (w.heap.size+1) (by simp)) (fun _ _=>id)) (by rfl) ((hkt.keep (by repeat(first|exact Tch.refl _ _|refine Tch.trans ?_ (Tch.drew _ _)|refine Tch.trans ?_ (Tch.alloc _ _ _)))).src) (by rfl) HMS.out (by unfold maxLen;omega) (by omega) ?_;intro v2 w2 ho2 hg2 hl2;rw[Nat.zero_add,List.nil_append]at ho2;obtain⟨A2,c2,rfl,_,_,_⟩:=zac ho2;have t2:Tch (fun k=>w.heap.size≤k) w w2:=Tch.trans (by repeat(first|exact Tch.refl _ _|refine Tch.trans ?_ (Tch.drew _ _)|refine Tch.trans ?_ (Tch.alloc _ _ _))) (Tch.grown hg2 (fun k e=>.inl (by have e':=zaz e;omega)));have n2:∀k,(Value.slice A2 j c2).ownBlock=some k→w.heap.size≤k:=fun k e=>(hl2 k e).elim (fun h=>by have e':=zaz h;omega) (fun h=>by(try simp at h);omega))
     |(refine zak _ (by rfl) (.tmp 37) (.tmp 39) _ (by rfl) zaj (by first|exact ho2|exact ho2.alloc _) (by rfl) (Go.Gk.Src.one (g:=w2.heap.size) (news:=[.int .i64 x]) rfl (fun j u hu=>hbn w2 _ rfl j u hu)) (by rfl) (zbz _) (by unfold maxLen;omega) (by omega) ?_;intro v6 w6 ho6 hg6 hl6;obtain⟨A6,c6,rfl,_,_,_⟩:=zac ho6;have t6:Tch (fun k=>w.heap.size≤k) w w6:=t2.trans (Tch.trans (by repeat(first|exact Tch.refl _ _|refine Tch.trans ?_ (Tch.drew _ _)|refine Tch.trans ?_ (Tch.alloc _ _ _))) (Tch.grown hg6 (fun k e=>.inl (n2 k e))));have n6:∀k,(Value.slice A6 (j+1) c6).ownBlock=some k→w.heap.size≤k:=fun k e=>(hl6 k e).elim (n2 k) (fun h=>by have:=t2.size;(try simp at h);omega))
     |(refine zak _ (by rfl) (.tmp 37) (.tmp 39) _ (by rfl) zaj (by first|exact ho2|exact ho2.alloc _) (by rfl) (Go.Gk.Src.one (g:=w.heap.size+1) (news:=[.int .i64 x]) rfl (fun j u hu=>(Tch.grown (F:=fun k=>k=w.heap.size) hg2 (fun k e=>.inl (zaz e).symm)).cell_some (hbn (w.alloc (.cells #[] 3)) _ (by simp) j u hu) (by show¬w.heap.size+1=w.heap.size;omega))) (by rfl) (zbz _) (by unfold maxLen;omega) (by omega) ?_;intro v6 w6 ho6 hg6 hl6;obtain⟨A6,c6,rfl,_,_,_⟩:=zac ho6;have t6:Tch (fun k=>w.heap.size≤k) w w6:=t2.trans (Tch.trans (by repeat(first|exact Tch.refl _ _|refine Tch.trans ?_ (Tch.drew _ _)|refine Tch.trans ?_ (Tch.alloc _ _ _))) (Tch.grown hg6 (fun k e=>.inl (n2 k e))));have n6:∀k,(Value.slice A6 (j+1) c6).ownBlock=some k→w.heap.size≤k:=fun k e=>(hl6 k e).elim (n2 k) (fun h=>by have:=t2.size;(try simp at h);omega))
     |(refine zak _ (by rfl) (.tmp 37) (.tmp 39) _ (by rfl) zaj (by first|exact ho2|exact ho2.alloc _) (by rfl) (Go.Gk.Src.one (g:=w.heap.size) (news:=[.int .i64 x]) rfl (fun j u hu=>(Tch.grown (F:=fun k=>k=w.heap.size+1) hg2 (fun k e=>.inl (zaz e).symm)).cell_some ((tal _ _).cell_some (hbn w _ rfl j u hu) id) (by show¬w.heap.size=w.heap.size+1;omega))) (by rfl) (zbz _) (by unfold maxLen;omega) (by omega) ?_;intro v6 w6 ho6 hg6 hl6;obtain⟨A6,c6,rfl,_,_,_⟩:=zac ho6;have t6:Tch (fun k=>w.heap.size≤k) w w6:=t2.trans (Tch.trans (by repeat(first|exact Tch.refl _ _|refine Tch.trans ?_ (Tch.drew _ _)|refine Tch.trans ?_ (Tch.alloc _ _ _))) (Tch.grown hg6 (fun k e=>.inl (n2 k e))));have n6:∀k,(Value.slice A6 (j+1) c6).ownBlock=some k→w.heap.size≤k:=fun k e=>(hl6 k e).elim (n2 k) (fun h=>by have:=t2.size;(try simp at h);omega))
     |(refine zak _ (by rfl) (.tmp 40) (.tmp 43) _ (by rfl) zaj ho6 (by rfl) (hkd.keepTo t6 (fun _ h9 h8=>⟨by omega,h8⟩)).src (by rfl) HDS.out (by unfold maxLen;omega) (by omega) ?_;intro v8 w8 ho8 hg8 hl8;obtain⟨A8,c8,rfl,_,_,_⟩:=zac ho8;have t8:Tch (fun k=>w.heap.size≤k) w w8:=t6.trans (Tch.grown hg8 (fun k e=>.inl (n6 k e)));have n8:=fun k e=>(hl8 k e).elim (n6 k) (fun h=>by have:=t6.size;(try simp at h);omega))
     )
   all_goals
    go_wp2;go_ret;exact⟨_,rfl,HF2.out _ _ ho8 n8 t8⟩
  have hlt':(j:Int)<(xs.length:Int):=by omega
  have q0:w.cell? ⟨g,j,none⟩=some (.int .i64 xs[j]):=by simpa using Row.one hk zap hlt rfl
  have HS:=Lib.hid (HWD.out j hlt);have HTK:=Lib.hid (show xs.take (j+1)=xs.take j++[xs[j]]from List.take_succ_eq_append_getElem hlt);generalize xs[j]=y at *;by_cases hy:y<x
  ·have HW2:=Lib.hid (show zdq xs x=xs.take (j+1)++zdq (xs.drop (j+1)) x by rw[HW.out,HS.out,if_pos hy,HTK.out];simp);clear HF1 hkd0 hkt;go_wp2;go_roundw
   case rel=>exact⟨j+1,by omega,by go_num,HW2.out,trivial⟩
   case measure=>simp[intOf];omega
  by_cases he:y=x
  ·subst he;have HW2:=Lib.hid (show zdq xs y=xs by rw[HW.out,HS.out,if_neg hy,if_pos rfl,List.take_append_drop]);clear HF1 hbn hmd hkd0 hkt;go_wp2;go_ret;exact⟨_,rfl,by rw[HW2.out];exact HO.out,Tch.refl _ _⟩
  have hyx:(y==x)=false:=by simpa using he
  have HF2:=Lib.hid (HF1.out (by rw[HW.out,HS.out,if_neg hy,if_neg he]));have hcj:¬c=j:=by omega
  have hkd:Row (fun h=>h<w.heap.size) w (.slice (some ⟨g,j,none⟩) (xs.length-j) (c-j)) (xs.length-j) 1 ds:=by simpa[sliced,hcj,Addr.add,hif]using hkd0
  clear hkd0 HW HWD HF1 HS HTK;go_wp2_with fail
  go_region_held3 (fun _=>True)
   (first|go_keep|exact trivial|trivial)
   (first
    |(refine zak _ (by rfl) (.tmp 33) (.tmp 36) _ (by rfl) zaj ((Tch.drew (fun _=>False) _).own (hmd w w.heap.size rfl) (fun _ _=>id)) (by rfl) ((hkt.keep (by repeat(first|exact Tch.refl _ _|refine Tch.trans ?_ (Tch.drew _ _)|refine Tch.trans ?_ (Tch.alloc _ _ _)))).src) (by rfl) HMS.out (by unfold maxLen;omega) (by omega) ?_;intro v2 w2 ho2 hg2 hl2;rw[Nat.zero_add,List.nil_append]at ho2;obtain⟨A2,c2,rfl,_,_,_⟩:=zac ho2;have t2:Tch (fun k=>w.heap.size≤k) w w2:=Tch.trans (by repeat(first|exact Tch.refl _ _|refine Tch.trans ?_ (Tch.drew _ _)|refine Tch.trans ?_ (Tch.alloc _ _ _))) (Tch.grown hg2 (fun k e=>.inl (by have e':=zaz e;omega)));have n2:∀k,(Value.slice A2 j c2).ownBlock=some k→w.heap.size≤k:=fun k e=>(hl2 k e).elim (fun h=>by have e':=zaz h;omega) (fun h=>by(try simp at h);omega))
    |(refine zak _ (by rfl) (.tmp 33) (.tmp 36) _ (by rfl) zaj (((tal _ _).trans (Tch.drew _ _)).own (hmd w w.heap.size rfl) (fun _ _=>id)) (by rfl) ((hkt.keep (by repeat(first|exact Tch.refl _ _|refine Tch.trans ?_ (Tch.drew _ _)|refine Tch.trans ?_ (Tch.alloc _ _ _)))).src) (by rfl) HMS.out (by unfold maxLen;omega) (by omega) ?_;intro v2 w2 ho2 hg2 hl2;rw[Nat.zero_add,List.nil_append]at ho2;obtain⟨A2,c2,rfl,_,_,_⟩:=zac ho2;have t2:Tch (fun k=>w.heap.size≤k) w w2:=Tch.trans (by repeat(first|exact Tch.refl _ _|refine Tch.trans ?_ (Tch.drew _ _)|refine Tch.trans ?_ (Tch.alloc _ _ _))) (Tch.grown hg2 (fun k e=>.inl (by have e':=zaz e;omega)));have n2:∀k,(Value.slice A2 j c2).ownBlock=some k→w.heap.size≤k:=fun k e=>(hl2 k e).elim (fun h=>by have e':=zaz h;omega) (fun h=>by(try simp at h);omega))
    |(refine zak _ (by rfl) (.tmp 33) (.tmp 36) _ (by rfl) zaj ((Tch.drew (fun _=>False) _).own (hmd (w.alloc (.cells #[.int .i64 x] 3)) (w.heap.size+1) (by simp)) (fun _ _=>id)) (by rfl) ((hkt.keep (by repeat(first|exact Tch.refl _ _|refine Tch.trans ?_ (Tch.drew _ _)|refine Tch.trans ?_ (Tch.alloc _ _ _)))).src) (by rfl) HMS.out (by unfold maxLen;omega) (by omega) ?_;intro v2 w2 ho2 hg2 hl2;rw[Nat.zero_add,List.nil_append]at ho2;obtain⟨A2,c2,rfl,_,_,_⟩:=zac ho2;have t2:Tch (fun k=>w.heap.size≤k) w w2:=Tch.trans (by repeat(first|exact Tch.refl _ _|refine Tch.trans ?_ (Tch.drew _ _)|refine Tch.trans ?_ (Tch.alloc _ _ _))) (Tch.grown hg2 (fun k e=>.inl (by have e':=zaz e;omega)));have n2:∀k,(Value.slice A2 j c2).ownBlock=some k→w.heap.size≤k:=fun k e=>(hl2 k e).elim (fun h=>by have e':=zaz h;omega) (fun h=>by(try simp at h);omega))
    |(refine zak _ (by rfl) (.tmp 37) (.tmp 39) _ (by rfl) zaj (by first|exact ho2|exact ho2.alloc _) (by rfl) (Go.Gk.Src.one (g:=w2.heap.size) (news:=[.int .i64 x]) rfl (fun j u hu=>hbn w2 _ rfl j u hu)) (by rfl) (zbz _) (by unfold maxLen;omega) (by omega) ?_;intro v6 w6 ho6 hg6 hl6;obtain⟨A6,c6,rfl,_,_,_⟩:=zac ho6;have t6:Tch (fun k=>w.heap.size≤k) w w6:=t2.trans (Tch.trans (by repeat(first|exact Tch.refl _ _|refine Tch.trans ?_ (Tch.drew _ _)|refine Tch.trans ?_ (Tch.alloc _ _ _))) (Tch.grown hg6 (fun k e=>.inl (n2 k e))));have n6:∀k,(Value.slice A6 (j+1) c6).ownBlock=some k→w.heap.size≤k:=fun k e=>(hl6 k e).elim (n2 k) (fun h=>by have:=t2.size;(try simp at h);omega))
    |(refine zak _ (by rfl) (.tmp 37) (.tmp 39) _ (by rfl) zaj (by first|exact ho2|exact ho2.alloc _) (by rfl) (Go.Gk.Src.one (g:=w.heap.size+1) (news:=[.int .i64 x]) rfl (fun j u hu=>(Tch.grown (F:=fun k=>k=w.heap.size) hg2 (fun k e=>.inl (zaz e).symm)).cell_some (hbn (w.alloc (.cells #[] 3)) _ (by simp) j u hu) (by show¬w.heap.size+1=w.heap.size;omega))) (by rfl) (zbz _) (by unfold maxLen;omega) (by omega) ?_;intro v6 w6 ho6 hg6 hl6;obtain⟨A6,c6,rfl,_,_,_⟩:=zac ho6;have t6:Tch (fun k=>w.heap.size≤k) w w6:=t2.trans (Tch.trans (by repeat(first|exact Tch.refl _ _|refine Tch.trans ?_ (Tch.drew _ _)|refine Tch.trans ?_ (Tch.alloc _ _ _))) (Tch.grown hg6 (fun k e=>.inl (n2 k e))));have n6:∀k,(Value.slice A6 (j+1) c6).ownBlock=some k→w.heap.size≤k:=fun k e=>(hl6 k e).elim (n2 k) (fun h=>by have:=t2.size;(try simp at h);omega))
    |(refine zak _ (by rfl) (.tmp 37) (.tmp 39) _ (by rfl) zaj (by first|exact ho2|exact ho2.alloc _) (by rfl) (Go.Gk.Src.one (g:=w.heap.size) (news:=[.int .i64 x]) rfl (fun j u hu=>(Tch.grown (F:=fun k=>k=w.heap.size+1) hg2 (fun k e=>.inl (zaz e).symm)).cell_some ((tal _ _).cell_some (hbn w _ rfl j u hu) id) (by show¬w.heap.size=w.heap.size+1;omega))) (by rfl) (zbz _) (by unfold maxLen;omega) (by omega) ?_;intro v6 w6 ho6 hg6 hl6;obtain⟨A6,c6,rfl,_,_,_⟩:=zac ho6;have t6:Tch (fun k=>w.heap.size≤k) w w6:=t2.trans (Tch.trans (by repeat(first|exact Tch.refl _ _|refine Tch.trans ?_ (Tch.drew _ _)|refine Tch.trans ?_ (Tch.alloc _ _ _))) (Tch.grown hg6 (fun k e=>.inl (n2 k e))));have n6:∀k,(Value.slice A6 (j+1) c6).ownBlock=some k→w.heap.size≤k:=fun k e=>(hl6 k e).elim (n2 k) (fun h=>by have:=t2.size;(try simp at h);omega))
    |(refine zak _ (by rfl) (.tmp 40) (.tmp 43) _ (by rfl) zaj ho6 (by rfl) (hkd.keepTo t6 (fun _ h9 h8=>⟨by omega,h8⟩)).src (by rfl) HDS.out (by unfold maxLen;omega) (by omega) ?_;intro v8 w8 ho8 hg8 hl8;obtain⟨A8,c8,rfl,_,_,_⟩:=zac ho8;have t8:Tch (fun k=>w.heap.size≤k) w w8:=t6.trans (Tch.grown hg8 (fun k e=>.inl (n6 k e)));have n8:=fun k e=>(hl8 k e).elim (n6 k) (fun h=>by have:=t6.size;(try simp at h);omega))
    )
  all_goals
   go_wp2;go_ret;exact⟨_,rfl,HF2.out _ _ ho8 n8 t8⟩
theorem zsp {w0 w:World} (hT0:Tf w0 w) (x:Int):
 Calls Tryz.prog 19 #[.slice none 0 0,.int .i64 x] w fun y w'=>∃u,y=.returned u∧zet w0 w' u [x]∧Tf w w':=by
 have hbn:∀(W:World) (N:Nat),N=W.heap.size→∀j u,([Value.int .i64 x])[j]?=some u→(W.alloc (.cells #[.int .i64 x] 3)).cell? ⟨N,j,none⟩=some u:=fun W N e j u hu=>by
  rw[e,(Blk.new W 3 #[.int .i64 x]).cell j];simpa using hu
 have hmd:∀(W:World) (N:Nat),N=W.heap.size→(W.alloc (.cells #[] 3)).ownsRow 0 3 1 (.slice (some ⟨N,0,none⟩) 0 0) 0 []:=fun W N e=>by
  rw[e];exact zb8 (zel W 3 1 0 #[] (Nat.zero_le _) rfl)
 have hkt:Row (fun h=>h<w.heap.size) w (.slice none 0 0) 0 1 []:=Row.nil _ _ _;have hkd:Row (fun h=>h<w.heap.size) w (.slice none 0 0) 0 1 []:=Row.nil _ _ _;have HMS:=Lib.hid (show∀u∈([]:List Value),u.oneCell'=true from fun u hu=>by cases hu);have HDS:=HMS;have HF2:=Lib.hid (fun(w':World) (u:Value) (hown:w'.ownsRow 0 3 1 u (0+1+0) ([]++[.int .i64 x]++[])) (hb:∀g,u.ownBlock=some g→w.heap.size≤g) (t:Tch (fun k=>w.heap.size≤k) w w')=>show zet w0 w' u [x]∧Tf w w' from zqs (xs:=[]) (j:=0) hT0 (Nat.le_refl _) rfl hown hb t);go_enter Tryz.func19,Tryz.ntmps19;go_wp2_with fail;go_loopw [5] (fun k wr=>k=.int .i64 0∧w=wr) (fun _ _=>0)
 case atStart=>exact⟨rfl,rfl⟩
 case round=>
  obtain⟨rfl,rfl⟩:=hrel;go_wp2_with fail
  go_region_held3 (fun _=>True)
   (first|go_keep|exact trivial|trivial)
   (first
    |(refine zak _ (by rfl) (.tmp 33) (.tmp 36) _ (by rfl) zaj ((Tch.drew (fun _=>False) _).own (hmd w w.heap.size rfl) (fun _ _=>id)) (by rfl) ((hkt.keep (by repeat(first|exact Tch.refl _ _|refine Tch.trans ?_ (Tch.drew _ _)|refine Tch.trans ?_ (Tch.alloc _ _ _)))).src) (by rfl) HMS.out (by unfold maxLen;omega) (by omega) ?_;intro v2 w2 ho2 hg2 hl2;rw[Nat.zero_add,List.nil_append]at ho2;obtain⟨A2,c2,rfl,_,_,_⟩:=zac ho2;have t2:Tch (fun k=>w.heap.size≤k) w w2:=Tch.trans (by repeat(first|exact Tch.refl _ _|refine Tch.trans ?_ (Tch.drew _ _)|refine Tch.trans ?_ (Tch.alloc _ _ _))) (Tch.grown hg2 (fun k e=>.inl (by have e':=zaz e;omega)));have n2:∀k,(Value.slice A2 0 c2).ownBlock=some k→w.heap.size≤k:=fun k e=>(hl2 k e).elim (fun h=>by have e':=zaz h;omega) (fun h=>by(try simp at h);omega))
    |(refine zak _ (by rfl) (.tmp 33) (.tmp 36) _ (by rfl) zaj (((tal _ _).trans (Tch.drew _ _)).own (hmd w w.heap.size rfl) (fun _ _=>id)) (by rfl) ((hkt.keep (by repeat(first|exact Tch.refl _ _|refine Tch.trans ?_ (Tch.drew _ _)|refine Tch.trans ?_ (Tch.alloc _ _ _)))).src) (by rfl) HMS.out (by unfold maxLen;omega) (by omega) ?_;intro v2 w2 ho2 hg2 hl2;rw[Nat.zero_add,List.nil_append]at ho2;obtain⟨A2,c2,rfl,_,_,_⟩:=zac ho2;have t2:Tch (fun k=>w.heap.size≤k) w w2:=Tch.trans (by repeat(first|exact Tch.refl _ _|refine Tch.trans ?_ (Tch.drew _ _)|refine Tch.trans ?_ (Tch.alloc _ _ _))) (Tch.grown hg2 (fun k e=>.inl (by have e':=zaz e;omega)));have n2:∀k,(Value.slice A2 0 c2).ownBlock=some k→w.heap.size≤k:=fun k e=>(hl2 k e).elim (fun h=>by have e':=zaz h;omega) (fun h=>by(try simp at h);omega))
    |(refine zak _ (by rfl) (.tmp 33) (.tmp 36) _ (by rfl) zaj ((Tch.drew (fun _=>False) _).own (hmd (w.alloc (.cells #[.int .i64 x] 3)) (w.heap.size+1) (by simp)) (fun _ _=>id)) (by rfl) ((hkt.keep (by repeat(first|exact Tch.refl _ _|refine Tch.trans ?_ (Tch.drew _ _)|refine Tch.trans ?_ (Tch.alloc _ _ _)))).src) (by rfl) HMS.out (by unfold maxLen;omega) (by omega) ?_;intro v2 w2 ho2 hg2 hl2;rw[Nat.zero_add,List.nil_append]at ho2;obtain⟨A2,c2,rfl,_,_,_⟩:=zac ho2;have t2:Tch (fun k=>w.heap.size≤k) w w2:=Tch.trans (by repeat(first|exact Tch.refl _ _|refine Tch.trans ?_ (Tch.drew _ _)|refine Tch.trans ?_ (Tch.alloc _ _ _))) (Tch.grown hg2 (fun k e=>.inl (by have e':=zaz e;omega)));have n2:∀k,(Value.slice A2 0 c2).ownBlock=some k→w.heap.size≤k:=fun k e=>(hl2 k e).elim (fun h=>by have e':=zaz h;omega) (fun h=>by(try simp at h);omega))
    |(refine zak _ (by rfl) (.tmp 37) (.tmp 39) _ (by rfl) zaj (by first|exact ho2|exact ho2.alloc _) (by rfl) (Go.Gk.Src.one (g:=w2.heap.size) (news:=[.int .i64 x]) rfl (fun j u hu=>hbn w2 _ rfl j u hu)) (by rfl) (zbz _) (by unfold maxLen;omega) (by omega) ?_;intro v6 w6 ho6 hg6 hl6;obtain⟨A6,c6,rfl,_,_,_⟩:=zac ho6;have t6:Tch (fun k=>w.heap.size≤k) w w6:=t2.trans (Tch.trans (by repeat(first|exact Tch.refl _ _|refine Tch.trans ?_ (Tch.drew _ _)|refine Tch.trans ?_ (Tch.alloc _ _ _))) (Tch.grown hg6 (fun k e=>.inl (n2 k e))));have n6:∀k,(Value.slice A6 (0+1) c6).ownBlock=some k→w.heap.size≤k:=fun k e=>(hl6 k e).elim (n2 k) (fun h=>by have:=t2.size;(try simp at h);omega))
    |(refine zak _ (by rfl) (.tmp 37) (.tmp 39) _ (by rfl) zaj (by first|exact ho2|exact ho2.alloc _) (by rfl) (Go.Gk.Src.one (g:=w.heap.size+1) (news:=[.int .i64 x]) rfl (fun j u hu=>(Tch.grown (F:=fun k=>k=w.heap.size) hg2 (fun k e=>.inl (zaz e).symm)).cell_some (hbn (w.alloc (.cells #[] 3)) _ (by simp) j u hu) (by show¬w.heap.size+1=w.heap.size;omega))) (by rfl) (zbz _) (by unfold maxLen;omega) (by omega) ?_;intro v6 w6 ho6 hg6 hl6;obtain⟨A6,c6,rfl,_,_,_⟩:=zac ho6;have t6:Tch (fun k=>w.heap.size≤k) w w6:=t2.trans (Tch.trans (by repeat(first|exact Tch.refl _ _|refine Tch.trans ?_ (Tch.drew _ _)|refine Tch.trans ?_ (Tch.alloc _ _ _))) (Tch.grown hg6 (fun k e=>.inl (n2 k e))));have n6:∀k,(Value.slice A6 (0+1) c6).ownBlock=some k→w.heap.size≤k:=fun k e=>(hl6 k e).elim (n2 k) (fun h=>by have:=t2.size;(try simp at h);omega))
    |(refine zak _ (by rfl) (.tmp 37) (.tmp 39) _ (by rfl) zaj (by first|exact ho2|exact ho2.alloc _) (by rfl) (Go.Gk.Src.one (g:=w.heap.size) (news:=[.int .i64 x]) rfl (fun j u hu=>(Tch.grown (F:=fun k=>k=w.heap.size+1) hg2 (fun k e=>.inl (zaz e).symm)).cell_some ((tal _ _).cell_some (hbn w _ rfl j u hu) id) (by show¬w.heap.size=w.heap.size+1;omega))) (by rfl) (zbz _) (by unfold maxLen;omega) (by omega) ?_;intro v6 w6 ho6 hg6 hl6;obtain⟨A6,c6,rfl,_,_,_⟩:=zac ho6;have t6:Tch (fun k=>w.heap.size≤k) w w6:=t2.trans (Tch.trans (by repeat(first|exact Tch.refl _ _|refine Tch.trans ?_ (Tch.drew _ _)|refine Tch.trans ?_ (Tch.alloc _ _ _))) (Tch.grown hg6 (fun k e=>.inl (n2 k e))));have n6:∀k,(Value.slice A6 (0+1) c6).ownBlock=some k→w.heap.size≤k:=fun k e=>(hl6 k e).elim (n2 k) (fun h=>by have:=t2.size;(try simp at h);omega))
    |(refine zak _ (by rfl) (.tmp 40) (.tmp 43) _ (by rfl) zaj ho6 (by rfl) (hkd.keepTo t6 (fun _ h9 h8=>⟨by omega,h8⟩)).src (by rfl) HDS.out (by unfold maxLen;omega) (by omega) ?_;intro v8 w8 ho8 hg8 hl8;obtain⟨A8,c8,rfl,_,_,_⟩:=zac ho8;have t8:Tch (fun k=>w.heap.size≤k) w w8:=t6.trans (Tch.grown hg8 (fun k e=>.inl (n6 k e)));have n8:=fun k e=>(hl8 k e).elim (n6 k) (fun h=>by have:=t6.size;(try simp at h);omega))
    )
  all_goals
   go_wp2;go_ret;exact⟨_,rfl,HF2.out _ _ ho8 n8 t8⟩
theorem refwith_tf {w0 w:World} {v:Value} {xs:List Int} (hO:zet w0 w v xs) (hv:xs=[]→v=.slice none 0 0) (hn:xs.length≤100000) (x:Int):
 Calls Tryz.prog 19 #[v,.int .i64 x] w fun y w'=>∃u,y=.returned u∧zet w0 w' u (zdq xs x)∧Tf w w':=by
 by_cases h:xs=[]
 ·rw[hv h,h];exact zsp hO.tch x
 ·obtain⟨A,c,rfl,h1,_,hA⟩:=zac hO.own;obtain⟨g,o,rfl⟩:=hO.row.head (List.length_pos_iff.2 h)
  rcases hA with hA|⟨g',hA⟩
  ·cases hA
  ·injection hA with hA;injection hA with hA1 hA2;subst hA1 hA2;exact zqt hO h h1 hn x
theorem zsq {w0 w:World} {v:Value} {xs:List Int} (hO:zet w0 w v xs) (hv:xs=[]→v=.slice none 0 0) (hn:xs.length≤100000) (x:Int):
 Calls Tryz.prog 19 #[v,.int .i64 x] w fun y w'=>∃u,y=.returned u∧zet w0 w' u (zdq xs x):=
 (refwith_tf hO hv hn x).mono fun _ _ ⟨u,h1,h2,_⟩=>⟨u,h1,h2⟩
