/-
  The document's: a number put into a rising row.
-/
import Derived.Test.YtnjhfcopphpkpaaGreatDoorZ38
import Derived.Test.YtnjhfcopphpkpaaGreatDoorZ62
import Derived.Test.YtnjhfcopphpkpaaGreatDoorZ61
set_option maxRecDepth 100000
set_option maxHeartbeats 12800000
namespace Go.Gk.V33
open Go.RowKit
theorem zak {P:Program} (w:World) {ops:Array Oper} {o:Oper} {a:Act} {K:Act→World→Prop} {Q:Exit→Act→World→Prop} {E:Prop} (hgd:o.guard=none) (s x:Operand) (t:TypeId)
 (ho:o.op=.call {callee:=.builtin .append,args:= #[s,x],argTypes:= #[t,t]})
 {e:TypeId} {z:Value} {size bytes:Nat} (T:RowTy P t e z size bytes) {v:Value} {n:Nat} {xs:List Value} (hown:w.ownsRow 0 e size v n xs) (hv:a.eval s=v)
 {ao:Option Addr} {m c:Nat} {news:List Value} (hs:Src w ao m c size news) (hx:a.eval x=.slice ao m c) (h1:∀u∈news,u.oneCell'=true)
 (h63:n+m≤maxLen) (hbytes:(n+m)*bytes≤140737488355328)
 (h:∀v' w',w'.ownsRow 0 e size v' (n+m) (xs++news)→w.grownBy w' v.ownBlock→(∀g,v'.ownBlock=some g→v.ownBlock=some g∨w.heap.size≤g)→K (a.put o.dst v') w'):
 if Region.wanted o (yielded ops a.tmps)=true then Oper.wp P o a w K Q else E:=by
 have hw:Region.wanted o (yielded ops a.tmps)=true:=by simp[Region.wanted,hgd]
 rw[if_pos hw];obtain⟨v',w',hr,h2,h3,h4⟩:=zhh w T o.type hown hs h1 h63 hbytes;unfold Oper.wp execOp;simp only[ho,resolve,invoke,builtin,Sem.run_bind,Sem.run_pure,Result.andThen_ok,List.map_toArray,List.map_cons,List.map_nil,hv,hx,hr];exact h v' w' h2 h3 h4
def zdq:List Int→Int→List Int
 |[],n=>[n]
 |x::r,n=>if x<n then x::zdq r n else if x=n then x::r else n::x::r
theorem ztr {q n:Int}:∀xs:List Int,q∈zdq xs n↔q∈xs∨q=n
 |[]=>by simp[zdq]
 |x::r=>by
  unfold zdq;by_cases h1:x<n
  ·rw[if_pos h1,List.mem_cons,List.mem_cons,ztr r,or_assoc]
  ·rw[if_neg h1];by_cases h2:x=n
   ·subst h2;rw[if_pos rfl,List.mem_cons];constructor
    ·exact .inl
    ·rintro(h|h)
     ·exact h
     ·exact .inl h
   ·rw[if_neg h2,List.mem_cons];exact or_comm
theorem with_len (xs:List Int) (n:Int):(zdq xs n).length≤xs.length+1:=by
 induction xs with
 |nil=>simp[zdq]
 |cons x r ih=>
  unfold zdq;split
  ·simp only[List.length_cons];omega
  ·split
   ·simp
   ·simp
theorem zyb {xs:List Int} {n:Int} {j:Nat} (h:j<xs.length):zdq (xs.drop j) n=if xs[j]<n then xs[j]::zdq (xs.drop (j+1)) n else if xs[j]=n then xs.drop j else n::xs.drop j:=by
 rw[List.drop_eq_getElem_cons h];rfl
theorem zqr (l:List Int):∀u∈l.flatMap zby,u.oneCell'=true:=by
 intro u hu;obtain⟨x,_,hx⟩:=List.mem_flatMap.1 hu;simp[zby]at hx;subst hx;rfl
theorem zbz (x:Int):∀u∈[Value.int .i64 x],u.oneCell'=true:=by
 intro u hu;rw[List.mem_singleton]at hu;subst hu;rfl
end Go.Gk.V33
namespace Go.Proofs.YtnjhfcopphpkpaaGreatDoor
open Go.RowKit Go.Gk Go.Gk.V33
theorem zqs {w0 w w':World} {u:Value} {xs:List Int} {x:Int} {j:Nat} (hT0:Tf w0 w) (hj:j≤xs.length) (he:zdq xs x=xs.take j++x::xs.drop j) (hown:w'.ownsRow 0 3 1 u (j+1+(xs.length-j)) ((xs.take j).flatMap zby++[.int .i64 x]++(xs.drop j).flatMap zby)) (hb:∀g,u.ownBlock=some g→w.heap.size≤g) (t:Tch (fun k=>w.heap.size≤k) w w'):zet w0 w' u (zdq xs x):=by
 refine⟨zbk ?_ fun g hg=>Nat.le_trans hT0.size (hb g hg),hT0.trans' t (fun i hi=>.inr (Nat.le_trans hT0.size hi))⟩;rw[he]
 have e1:(xs.take j++x::xs.drop j).length=j+1+(xs.length-j):=by
  rw[List.length_append,List.length_cons,List.length_take,List.length_drop];omega
 have e2:(xs.take j++x::xs.drop j).flatMap zby=(xs.take j).flatMap zby++[.int .i64 x]++(xs.drop j).flatMap zby:=by
  rw[List.flatMap_append,List.flatMap_cons,List.append_assoc];rfl
 rw[e1,e2];exact hown
theorem zqt {w0 w:World} {g c:Nat} {xs:List Int} (hO:zet w0 w (.slice (some ⟨g,0,none⟩) xs.length c) xs) (hx0:xs≠[]) (hlc:xs.length≤c) (hn:xs.length≤100000) (x:Int):
 Calls Tryz.prog 321 #[.slice (some ⟨g,0,none⟩) xs.length c,.int .i64 x] w fun y w'=>∃u,y=.returned u∧zet w0 w' u (zdq xs x):=by
 have hk:zae zby 1 (fun h=>h<w.heap.size) w (.slice (some ⟨g,0,none⟩) xs.length c) xs:=Row.own hO.own fun g hg=>(hO.own.lt g hg).2
 have HO:=Lib.hid hO;have hl0:0<xs.length:=List.length_pos_iff.2 hx0;have hc0:¬c=0:=by omega
 have HWD:=Lib.hid (fun j (hj:j<xs.length)=>zyb (n:=x) hj)
 have hbn:∀(W:World) (N:Nat),N=W.heap.size→∀j u,([Value.int .i64 x])[j]?=some u→(W.alloc (.cells #[.int .i64 x] 3)).cell? ⟨N,j,none⟩=some u:=fun W N e j u hu=>by
  rw[e,(Blk.new W 3 #[.int .i64 x]).cell j];simpa using hu
 have hmd:∀(W:World) (N:Nat),N=W.heap.size→(W.alloc (.cells #[] 3)).ownsRow 0 3 1 (.slice (some ⟨N,0,none⟩) 0 0) 0 []:=fun W N e=>by
  rw[e];exact zb8 (zel W 3 1 0 #[] (Nat.zero_le _) rfl)
 have HFIN:=Lib.hid (fun(j:Nat) (hj:j≤xs.length) (he:zdq xs x=xs.take j++x::xs.drop j) (w':World) (u:Value) (hown:w'.ownsRow 0 3 1 u (j+1+(xs.length-j)) ((xs.take j).flatMap zby++[.int .i64 x]++(xs.drop j).flatMap zby)) (hb:∀g,u.ownBlock=some g→w.heap.size≤g) (t:Tch (fun k=>w.heap.size≤k) w w')=>zqs hO.tch hj he hown hb t);clear hO hx0;go_enter Tryz.func321,Tryz.ntmps321;go_wp2_with fail;go_loopw [5] (fun k wr=>∃j:Nat,j≤xs.length∧k=.int .i64 j∧zdq xs x=xs.take j++zdq (xs.drop j) x∧w=wr) (fun k _=>xs.length-(intOf k).toNat)
 case atStart=>exact⟨0,Nat.zero_le _,rfl,by simp,rfl⟩
 case round=>
  obtain⟨j,hj,rfl,hw,rfl⟩:=hrel;have HW:=Lib.hid hw;have hj0:=znn j;have hkt:=Row.takes' zap hk hj;have hlt9:(xs.take j).length=j:=by rw[List.length_take];omega
  unfold zae at hkt;rw[hlt9]at hkt;have hkd0:=Row.cuts zap hk hj (Nat.le_refl _);rw[List.take_of_length_le (by rw[List.length_drop];omega)]at hkd0;have HF1:=Lib.hid (fun he=>HFIN.out j hj he)
  obtain⟨ms,hms⟩:∃ms,(xs.take j).flatMap zby=ms:=⟨_,rfl⟩
  have HMS:=Lib.hid (show∀u∈ms,u.oneCell'=true by rw[←hms];exact zqr _);rw[hms]at hkt HF1
  obtain⟨ds,hds⟩:∃ds,(xs.drop j).flatMap zby=ds:=⟨_,rfl⟩
  have HDS:=Lib.hid (show∀u∈ds,u.oneCell'=true by rw[←hds];exact zqr _);rw[hds]at hkd0 HF1
  have hif:(if j=0 then(⟨g,0,none⟩:Addr)else⟨g,j,none⟩)=⟨g,j,none⟩:=by
   by_cases h9:j=0<;>simp[h9]
  have hjc:(j:Int)≤(c:Int):=by omega
  have hjl:(j:Int)≤(xs.length:Int):=by omega
  have hlc9:(xs.length:Int)≤(c:Int):=by omega
  clear hw hms hds hlt9 HFIN;by_cases hlt:j<xs.length
  rotate_left;have hje:j=xs.length:=by omega
  have HF2:=Lib.hid (HF1.out (by rw[HW.out,hje,List.drop_length];rfl));have hlt':¬(j:Int)<(xs.length:Int):=by omega
  clear HW HWD HF1 hje hk;by_cases hcj:c=j
  ·subst c;have hkd:Row (fun h=>h<w.heap.size) w (.slice (some ⟨g,0,none⟩) (xs.length-j) 0) (xs.length-j) 1 ds:=by simpa[sliced]using hkd0
   go_wp2_with fail;clear hkd0 hlt hlt' hlc hlc9
   go_region_held3 (fun _=>True)
    (first|go_keep|exact trivial|trivial)
    (first
     |(refine zak _ (by rfl) (.tmp 33) (.tmp 36) _ (by rfl) zaj ((Tch.drew (fun _=>False) _).own (hmd w w.heap.size rfl) (fun _ _=>id)) (by rfl) ((hkt.keep (by repeat(first|exact Tch.refl _ _|refine Tch.trans ?_ (Tch.drew _ _)|refine Tch.trans ?_ (Tch.alloc _ _ _)))).src) (by rfl) HMS.out (by unfold maxLen;omega) (by omega) ?_;intro v2 w2 ho2 hg2 hl2;rw[Nat.zero_add,List.nil_append]at ho2;obtain⟨A2,c2,rfl,_,_,_⟩:=zac ho2;have t2:Tch (fun k=>w.heap.size≤k) w w2:=Tch.trans (by repeat(first|exact Tch.refl _ _|refine Tch.trans ?_ (Tch.drew _ _)|refine Tch.trans ?_ (Tch.alloc _ _ _))) (Tch.grown hg2 (fun k e=>.inl (by have e':=zaz e;omega)));have n2:∀k,(Value.slice A2 j c2).ownBlock=some k→w.heap.size≤k:=fun k e=>(hl2 k e).elim (fun h=>by have e':=zaz h;omega) (fun h=>by(try simp at h);omega))
     |(refine zak _ (by rfl) (.tmp 33) (.tmp 36) _ (by rfl) zaj (((tal _ _).trans (Tch.drew _ _)).own (hmd w w.heap.size rfl) (fun _ _=>id)) (by rfl) ((hkt.keep (by repeat(first|exact Tch.refl _ _|refine Tch.trans ?_ (Tch.drew _ _)|refine Tch.trans ?_ (Tch.alloc _ _ _)))).src) (by rfl) HMS.out (by unfold maxLen;omega) (by omega) ?_;intro v2 w2 ho2 hg2 hl2;rw[Nat.zero_add,List.nil_append]at ho2;obtain⟨A2,c2,rfl,_,_,_⟩:=zac ho2;have t2:Tch (fun k=>w.heap.size≤k) w w2:=Tch.trans (by repeat(first|exact Tch.refl _ _|refine Tch.trans ?_ (Tch.drew _ _)|refine Tch.trans ?_ (Tch.alloc _ _ _))) (Tch.grown hg2 (fun k e=>.inl (by have e':=zaz e;omega)));have n2:∀k,(Value.slice A2 j c2).ownBlock=some k→w.heap.size≤k:=fun k e=>(hl2 k e).elim (fun h=>by have e':=zaz h;omega) (fun h=>by(try simp at h);omega))
     |(refine zak _ (by rfl) (.tmp 33) (.tmp 36) _ (by rfl) zaj ((Tch.drew (fun _=>False) _).own (hmd (w.alloc (.cells #[.int .i64 x] 3)) (w.heap.size+1) (by simp)) (fun _ _=>id)) (by rfl) ((hkt.keep (by repeat(first|exact Tch.refl _ _|refine Tch.trans ?_ (Tch.drew _ _)|refine Tch.trans ?_ (Tch.alloc _ _ _)))).src) (by rfl) HMS.out (by unfold maxLen;omega) (by omega) ?_;intro v2 w2 ho2 hg2 hl2;rw[Nat.zero_add,List.nil_append]at ho2;obtain⟨A2,c2,rfl,_,_,_⟩:=zac ho2;have t2:Tch (fun k=>w.heap.size≤k) w w2:=Tch.trans (by repeat(first|exact Tch.refl _ _|refine Tch.trans ?_ (Tch.drew _ _)|refine Tch.trans ?_ (Tch.alloc _ _ _))) (Tch.grown hg2 (fun k e=>.inl (by have e':=zaz e;omega)));have n2:∀k,(Value.slice A2 j c2).ownBlock=some k→w.heap.size≤k:=fun k e=>(hl2 k e).elim (fun h=>by have e':=zaz h;omega) (fun h=>by(try simp at h);omega))
     |(refine zak _ (by rfl) (.tmp 37) (.tmp 39) _ (by rfl) zaj (by first|exact ho2|exact ho2.alloc _) (by rfl) (Go.Gk.Src.one (g:=w2.heap.size) (news:=[.int .i64 x]) rfl (fun j u hu=>hbn w2 _ rfl j u hu)) (by rfl) (zbz _) (by unfold maxLen;omega) (by omega) ?_;intro v6 w6 ho6 hg6 hl6;obtain⟨A6,c6,rfl,_,_,_⟩:=zac ho6;have t6:Tch (fun k=>w.heap.size≤k) w w6:=t2.trans (Tch.trans (by repeat(first|exact Tch.refl _ _|refine Tch.trans ?_ (Tch.drew _ _)|refine Tch.trans ?_ (Tch.alloc _ _ _))) (Tch.grown hg6 (fun k e=>.inl (n2 k e))));have n6:∀k,(Value.slice A6 (j+1) c6).ownBlock=some k→w.heap.size≤k:=fun k e=>(hl6 k e).elim (n2 k) (fun h=>by have:=t2.size;(try simp at h);omega))
     |(refine zak _ (by rfl) (.tmp 37) (.tmp 39) _ (by rfl) zaj (by first|exact ho2|exact ho2.alloc _) (by rfl) (Go.Gk.Src.one (g:=w.heap.size+1) (news:=[.int .i64 x]) rfl (fun j u hu=>(Tch.grown (F:=fun k=>k=w.heap.size) hg2 (fun k e=>.inl (zaz e).symm)).cell_some (hbn (w.alloc (.cells #[] 3)) _ (by simp) j u hu) (by show¬w.heap.size+1=w.heap.size;omega))) (by rfl) (zbz _) (by unfold maxLen;omega) (by omega) ?_;intro v6 w6 ho6 hg6 hl6;obtain⟨A6,c6,rfl,_,_,_⟩:=zac ho6;have t6:Tch (fun k=>w.heap.size≤k) w w6:=t2.trans (Tch.trans (by repeat(first|exact Tch.refl _ _|refine Tch.trans ?_ (Tch.drew _ _)|refine Tch.trans ?_ (Tch.alloc _ _ _))) (Tch.grown hg6 (fun k e=>.inl (n2 k e))));have n6:∀k,(Value.slice A6 (j+1) c6).ownBlock=some k→w.heap.size≤k:=fun k e=>(hl6 k e).elim (n2 k) (fun h=>by have:=t2.size;(try simp at h);omega))
     |(refine zak _ (by rfl) (.tmp 37) (.tmp 39) _ (by rfl) zaj (by first|exact ho2|exact ho2.alloc _) (by rfl) (Go.Gk.Src.one (g:=w.heap.size) (news:=[.int .i64 x]) rfl (fun j u hu=>(Tch.grown (F:=fun k=>k=w.heap.size+1) hg2 (fun k e=>.inl (zaz e).symm)).cell_some ((tal _ _).cell_some (hbn w _ rfl j u hu) id) (by show¬w.heap.size=w.heap.size+1;omega))) (by rfl) (zbz _) (by unfold maxLen;omega) (by omega) ?_;intro v6 w6 ho6 hg6 hl6;obtain⟨A6,c6,rfl,_,_,_⟩:=zac ho6;have t6:Tch (fun k=>w.heap.size≤k) w w6:=t2.trans (Tch.trans (by repeat(first|exact Tch.refl _ _|refine Tch.trans ?_ (Tch.drew _ _)|refine Tch.trans ?_ (Tch.alloc _ _ _))) (Tch.grown hg6 (fun k e=>.inl (n2 k e))));have n6:∀k,(Value.slice A6 (j+1) c6).ownBlock=some k→w.heap.size≤k:=fun k e=>(hl6 k e).elim (n2 k) (fun h=>by have:=t2.size;(try simp at h);omega))
     |(refine zak _ (by rfl) (.tmp 40) (.tmp 43) _ (by rfl) zaj ho6 (by rfl) (hkd.keepTo t6 (fun _ h9 h8=>⟨by omega,h8⟩)).src (by rfl) HDS.out (by unfold maxLen;omega) (by omega) ?_;intro v8 w8 ho8 hg8 hl8;obtain⟨A8,c8,rfl,_,_,_⟩:=zac ho8;have t8:Tch (fun k=>w.heap.size≤k) w w8:=t6.trans (Tch.grown hg8 (fun k e=>.inl (n6 k e)));have n8:=fun k e=>(hl8 k e).elim (n6 k) (fun h=>by have:=t6.size;(try simp at h);omega))
     )
   all_goals
    go_wp2;go_ret;exact⟨_,rfl,HF2.out _ _ ho8 n8 t8⟩
  ·have hkd:Row (fun h=>h<w.heap.size) w (.slice (some ⟨g,j,none⟩) (xs.length-j) (c-j)) (xs.length-j) 1 ds:=by simpa[sliced,hcj,Addr.add,hif]using hkd0
   go_wp2_with fail;clear hkd0 hlt hlt'
   go_region_held3 (fun _=>True)
    (first|go_keep|exact trivial|trivial)
    (first
     |(refine zak _ (by rfl) (.tmp 33) (.tmp 36) _ (by rfl) zaj ((Tch.drew (fun _=>False) _).own (hmd w w.heap.size rfl) (fun _ _=>id)) (by rfl) ((hkt.keep (by repeat(first|exact Tch.refl _ _|refine Tch.trans ?_ (Tch.drew _ _)|refine Tch.trans ?_ (Tch.alloc _ _ _)))).src) (by rfl) HMS.out (by unfold maxLen;omega) (by omega) ?_;intro v2 w2 ho2 hg2 hl2;rw[Nat.zero_add,List.nil_append]at ho2;obtain⟨A2,c2,rfl,_,_,_⟩:=zac ho2;have t2:Tch (fun k=>w.heap.size≤k) w w2:=Tch.trans (by repeat(first|exact Tch.refl _ _|refine Tch.trans ?_ (Tch.drew _ _)|refine Tch.trans ?_ (Tch.alloc _ _ _))) (Tch.grown hg2 (fun k e=>.inl (by have e':=zaz e;omega)));have n2:∀k,(Value.slice A2 j c2).ownBlock=some k→w.heap.size≤k:=fun k e=>(hl2 k e).elim (fun h=>by have e':=zaz h;omega) (fun h=>by(try simp at h);omega))
     |(refine zak _ (by rfl) (.tmp 33) (.tmp 36) _ (by rfl) zaj (((tal _ _).trans (Tch.drew _ _)).own (hmd w w.heap.size rfl) (fun _ _=>id)) (by rfl) ((hkt.keep (by repeat(first|exact Tch.refl _ _|refine Tch.trans ?_ (Tch.drew _ _)|refine Tch.trans ?_ (Tch.alloc _ _ _)))).src) (by rfl) HMS.out (by unfold maxLen;omega) (by omega) ?_;intro v2 w2 ho2 hg2 hl2;rw[Nat.zero_add,List.nil_append]at ho2;obtain⟨A2,c2,rfl,_,_,_⟩:=zac ho2;have t2:Tch (fun k=>w.heap.size≤k) w w2:=Tch.trans (by repeat(first|exact Tch.refl _ _|refine Tch.trans ?_ (Tch.drew _ _)|refine Tch.trans ?_ (Tch.alloc _ _ _))) (Tch.grown hg2 (fun k e=>.inl (by have e':=zaz e;omega)));have n2:∀k,(Value.slice A2 j c2).ownBlock=some k→w.heap.size≤k:=fun k e=>(hl2 k e).elim (fun h=>by have e':=zaz h;omega) (fun h=>by(try simp at h);omega))
     |(refine zak _ (by rfl) (.tmp 33) (.tmp 36) _ (by rfl) zaj ((Tch.drew (fun _=>False) _).own (hmd (w.alloc (.cells #[.int .i64 x] 3)) (w.heap.size+1) (by simp)) (fun _ _=>id)) (by rfl) ((hkt.keep (by repeat(first|exact Tch.refl _ _|refine Tch.trans ?_ (Tch.drew _ _)|refine Tch.trans ?_ (Tch.alloc _ _ _)))).src) (by rfl) HMS.out (by unfold maxLen;omega) (by omega) ?_;intro v2 w2 ho2 hg2 hl2;rw[Nat.zero_add,List.nil_append]at ho2;obtain⟨A2,c2,rfl,_,_,_⟩:=zac ho2;have t2:Tch (fun k=>w.heap.size≤k) w w2:=Tch.trans (by repeat(first|exact Tch.refl _ _|refine Tch.trans ?_ (Tch.drew _ _)|refine Tch.trans ?_ (Tch.alloc _ _ _))) (Tch.grown hg2 (fun k e=>.inl (by have e':=zaz e;omega)));have n2:∀k,(Value.slice A2 j c2).ownBlock=some k→w.heap.size≤k:=fun k e=>(hl2 k e).elim (fun h=>by have e':=zaz h;omega) (fun h=>by(try simp at h);omega))
     |(refine zak _ (by rfl) (.tmp 37) (.tmp 39) _ (by rfl) zaj (by first|exact ho2|exact ho2.alloc _) (by rfl) (Go.Gk.Src.one (g:=w2.heap.size) (news:=[.int .i64 x]) rfl (fun j u hu=>hbn w2 _ rfl j u hu)) (by rfl) (zbz _) (by unfold maxLen;omega) (by omega) ?_;intro v6 w6 ho6 hg6 hl6;obtain⟨A6,c6,rfl,_,_,_⟩:=zac ho6;have t6:Tch (fun k=>w.heap.size≤k) w w6:=t2.trans (Tch.trans (by repeat(first|exact Tch.refl _ _|refine Tch.trans ?_ (Tch.drew _ _)|refine Tch.trans ?_ (Tch.alloc _ _ _))) (Tch.grown hg6 (fun k e=>.inl (n2 k e))));have n6:∀k,(Value.slice A6 (j+1) c6).ownBlock=some k→w.heap.size≤k:=fun k e=>(hl6 k e).elim (n2 k) (fun h=>by have:=t2.size;(try simp at h);omega))
     |(refine zak _ (by rfl) (.tmp 37) (.tmp 39) _ (by rfl) zaj (by first|exact ho2|exact ho2.alloc _) (by rfl) (Go.Gk.Src.one (g:=w.heap.size+1) (news:=[.int .i64 x]) rfl (fun j u hu=>(Tch.grown (F:=fun k=>k=w.heap.size) hg2 (fun k e=>.inl (zaz e).symm)).cell_some (hbn (w.alloc (.cells #[] 3)) _ (by simp) j u hu) (by show¬w.heap.size+1=w.heap.size;omega))) (by rfl) (zbz _) (by unfold maxLen;omega) (by omega) ?_;intro v6 w6 ho6 hg6 hl6;obtain⟨A6,c6,rfl,_,_,_⟩:=zac ho6;have t6:Tch (fun k=>w.heap.size≤k) w w6:=t2.trans (Tch.trans (by repeat(first|exact Tch.refl _ _|refine Tch.trans ?_ (Tch.drew _ _)|refine Tch.trans ?_ (Tch.alloc _ _ _))) (Tch.grown hg6 (fun k e=>.inl (n2 k e))));have n6:∀k,(Value.slice A6 (j+1) c6).ownBlock=some k→w.heap.size≤k:=fun k e=>(hl6 k e).elim (n2 k) (fun h=>by have:=t2.size;(try simp at h);omega))
     |(refine zak _ (by rfl) (.tmp 37) (.tmp 39) _ (by rfl) zaj (by first|exact ho2|exact ho2.alloc _) (by rfl) (Go.Gk.Src.one (g:=w.heap.size) (news:=[.int .i64 x]) rfl (fun j u hu=>(Tch.grown (F:=fun k=>k=w.heap.size+1) hg2 (fun k e=>.inl (zaz e).symm)).cell_some ((tal _ _).cell_some (hbn w _ rfl j u hu) id) (by show¬w.heap.size=w.heap.size+1;omega))) (by rfl) (zbz _) (by unfold maxLen;omega) (by omega) ?_;intro v6 w6 ho6 hg6 hl6;obtain⟨A6,c6,rfl,_,_,_⟩:=zac ho6;have t6:Tch (fun k=>w.heap.size≤k) w w6:=t2.trans (Tch.trans (by repeat(first|exact Tch.refl _ _|refine Tch.trans ?_ (Tch.drew _ _)|refine Tch.trans ?_ (Tch.alloc _ _ _))) (Tch.grown hg6 (fun k e=>.inl (n2 k e))));have n6:∀k,(Value.slice A6 (j+1) c6).ownBlock=some k→w.heap.size≤k:=fun k e=>(hl6 k e).elim (n2 k) (fun h=>by have:=t2.size;(try simp at h);omega))
     |(refine zak _ (by rfl) (.tmp 40) (.tmp 43) _ (by rfl) zaj ho6 (by rfl) (hkd.keepTo t6 (fun _ h9 h8=>⟨by omega,h8⟩)).src (by rfl) HDS.out (by unfold maxLen;omega) (by omega) ?_;intro v8 w8 ho8 hg8 hl8;obtain⟨A8,c8,rfl,_,_,_⟩:=zac ho8;have t8:Tch (fun k=>w.heap.size≤k) w w8:=t6.trans (Tch.grown hg8 (fun k e=>.inl (n6 k e)));have n8:=fun k e=>(hl8 k e).elim (n6 k) (fun h=>by have:=t6.size;(try simp at h);omega))
     )
   all_goals
    go_wp2;go_ret;exact⟨_,rfl,HF2.out _ _ ho8 n8 t8⟩
  have hlt':(j:Int)<(xs.length:Int):=by omega
  have q0:w.cell? ⟨g,j,none⟩=some (.int .i64 xs[j]):=by simpa using Row.one hk zap hlt rfl
  have HS:=Lib.hid (HWD.out j hlt);have HTK:=Lib.hid (show xs.take (j+1)=xs.take j++[xs[j]]from List.take_succ_eq_append_getElem hlt);generalize xs[j]=y at *;by_cases hy:y<x
  ·have HW2:=Lib.hid (show zdq xs x=xs.take (j+1)++zdq (xs.drop (j+1)) x by rw[HW.out,HS.out,if_pos hy,HTK.out];simp);clear HF1 hkd0 hkt;go_wp2;go_roundw
   case rel=>exact⟨j+1,by omega,by go_num,HW2.out,trivial⟩
   case measure=>simp[intOf];omega
  by_cases he:y=x
  ·subst he;have HW2:=Lib.hid (show zdq xs y=xs by rw[HW.out,HS.out,if_neg hy,if_pos rfl,List.take_append_drop]);clear HF1 hbn hmd hkd0 hkt;go_wp2;go_ret;exact⟨_,rfl,by rw[HW2.out];exact HO.out⟩
  have hyx:(y==x)=false:=by simpa using he
  have HF2:=Lib.hid (HF1.out (by rw[HW.out,HS.out,if_neg hy,if_neg he]));have hcj:¬c=j:=by omega
  have hkd:Row (fun h=>h<w.heap.size) w (.slice (some ⟨g,j,none⟩) (xs.length-j) (c-j)) (xs.length-j) 1 ds:=by simpa[sliced,hcj,Addr.add,hif]using hkd0
  clear hkd0 HW HWD HF1 HS HTK;go_wp2_with fail
  go_region_held3 (fun _=>True)
   (first|go_keep|exact trivial|trivial)
   (first
    |(refine zak _ (by rfl) (.tmp 33) (.tmp 36) _ (by rfl) zaj ((Tch.drew (fun _=>False) _).own (hmd w w.heap.size rfl) (fun _ _=>id)) (by rfl) ((hkt.keep (by repeat(first|exact Tch.refl _ _|refine Tch.trans ?_ (Tch.drew _ _)|refine Tch.trans ?_ (Tch.alloc _ _ _)))).src) (by rfl) HMS.out (by unfold maxLen;omega) (by omega) ?_;intro v2 w2 ho2 hg2 hl2;rw[Nat.zero_add,List.nil_append]at ho2;obtain⟨A2,c2,rfl,_,_,_⟩:=zac ho2;have t2:Tch (fun k=>w.heap.size≤k) w w2:=Tch.trans (by repeat(first|exact Tch.refl _ _|refine Tch.trans ?_ (Tch.drew _ _)|refine Tch.trans ?_ (Tch.alloc _ _ _))) (Tch.grown hg2 (fun k e=>.inl (by have e':=zaz e;omega)));have n2:∀k,(Value.slice A2 j c2).ownBlock=some k→w.heap.size≤k:=fun k e=>(hl2 k e).elim (fun h=>by have e':=zaz h;omega) (fun h=>by(try simp at h);omega))
    |(refine zak _ (by rfl) (.tmp 33) (.tmp 36) _ (by rfl) zaj (((tal _ _).trans (Tch.drew _ _)).own (hmd w w.heap.size rfl) (fun _ _=>id)) (by rfl) ((hkt.keep (by repeat(first|exact Tch.refl _ _|refine Tch.trans ?_ (Tch.drew _ _)|refine Tch.trans ?_ (Tch.alloc _ _ _)))).src) (by rfl) HMS.out (by unfold maxLen;omega) (by omega) ?_;intro v2 w2 ho2 hg2 hl2;rw[Nat.zero_add,List.nil_append]at ho2;obtain⟨A2,c2,rfl,_,_,_⟩:=zac ho2;have t2:Tch (fun k=>w.heap.size≤k) w w2:=Tch.trans (by repeat(first|exact Tch.refl _ _|refine Tch.trans ?_ (Tch.drew _ _)|refine Tch.trans ?_ (Tch.alloc _ _ _))) (Tch.grown hg2 (fun k e=>.inl (by have e':=zaz e;omega)));have n2:∀k,(Value.slice A2 j c2).ownBlock=some k→w.heap.size≤k:=fun k e=>(hl2 k e).elim (fun h=>by have e':=zaz h;omega) (fun h=>by(try simp at h);omega))
    |(refine zak _ (by rfl) (.tmp 33) (.tmp 36) _ (by rfl) zaj ((Tch.drew (fun _=>False) _).own (hmd (w.alloc (.cells #[.int .i64 x] 3)) (w.heap.size+1) (by simp)) (fun _ _=>id)) (by rfl) ((hkt.keep (by repeat(first|exact Tch.refl _ _|refine Tch.trans ?_ (Tch.drew _ _)|refine Tch.trans ?_ (Tch.alloc _ _ _)))).src) (by rfl) HMS.out (by unfold maxLen;omega) (by omega) ?_;intro v2 w2 ho2 hg2 hl2;rw[Nat.zero_add,List.nil_append]at ho2;obtain⟨A2,c2,rfl,_,_,_⟩:=zac ho2;have t2:Tch (fun k=>w.heap.size≤k) w w2:=Tch.trans (by repeat(first|exact Tch.refl _ _|refine Tch.trans ?_ (Tch.drew _ _)|refine Tch.trans ?_ (Tch.alloc _ _ _))) (Tch.grown hg2 (fun k e=>.inl (by have e':=zaz e;omega)));have n2:∀k,(Value.slice A2 j c2).ownBlock=some k→w.heap.size≤k:=fun k e=>(hl2 k e).elim (fun h=>by have e':=zaz h;omega) (fun h=>by(try simp at h);omega))
    |(refine zak _ (by rfl) (.tmp 37) (.tmp 39) _ (by rfl) zaj (by first|exact ho2|exact ho2.alloc _) (by rfl) (Go.Gk.Src.one (g:=w2.heap.size) (news:=[.int .i64 x]) rfl (fun j u hu=>hbn w2 _ rfl j u hu)) (by rfl) (zbz _) (by unfold maxLen;omega) (by omega) ?_;intro v6 w6 ho6 hg6 hl6;obtain⟨A6,c6,rfl,_,_,_⟩:=zac ho6;have t6:Tch (fun k=>w.heap.size≤k) w w6:=t2.trans (Tch.trans (by repeat(first|exact Tch.refl _ _|refine Tch.trans ?_ (Tch.drew _ _)|refine Tch.trans ?_ (Tch.alloc _ _ _))) (Tch.grown hg6 (fun k e=>.inl (n2 k e))));have n6:∀k,(Value.slice A6 (j+1) c6).ownBlock=some k→w.heap.size≤k:=fun k e=>(hl6 k e).elim (n2 k) (fun h=>by have:=t2.size;(try simp at h);omega))
    |(refine zak _ (by rfl) (.tmp 37) (.tmp 39) _ (by rfl) zaj (by first|exact ho2|exact ho2.alloc _) (by rfl) (Go.Gk.Src.one (g:=w.heap.size+1) (news:=[.int .i64 x]) rfl (fun j u hu=>(Tch.grown (F:=fun k=>k=w.heap.size) hg2 (fun k e=>.inl (zaz e).symm)).cell_some (hbn (w.alloc (.cells #[] 3)) _ (by simp) j u hu) (by show¬w.heap.size+1=w.heap.size;omega))) (by rfl) (zbz _) (by unfold maxLen;omega) (by omega) ?_;intro v6 w6 ho6 hg6 hl6;obtain⟨A6,c6,rfl,_,_,_⟩:=zac ho6;have t6:Tch (fun k=>w.heap.size≤k) w w6:=t2.trans (Tch.trans (by repeat(first|exact Tch.refl _ _|refine Tch.trans ?_ (Tch.drew _ _)|refine Tch.trans ?_ (Tch.alloc _ _ _))) (Tch.grown hg6 (fun k e=>.inl (n2 k e))));have n6:∀k,(Value.slice A6 (j+1) c6).ownBlock=some k→w.heap.size≤k:=fun k e=>(hl6 k e).elim (n2 k) (fun h=>by have:=t2.size;(try simp at h);omega))
    |(refine zak _ (by rfl) (.tmp 37) (.tmp 39) _ (by rfl) zaj (by first|exact ho2|exact ho2.alloc _) (by rfl) (Go.Gk.Src.one (g:=w.heap.size) (news:=[.int .i64 x]) rfl (fun j u hu=>(Tch.grown (F:=fun k=>k=w.heap.size+1) hg2 (fun k e=>.inl (zaz e).symm)).cell_some ((tal _ _).cell_some (hbn w _ rfl j u hu) id) (by show¬w.heap.size=w.heap.size+1;omega))) (by rfl) (zbz _) (by unfold maxLen;omega) (by omega) ?_;intro v6 w6 ho6 hg6 hl6;obtain⟨A6,c6,rfl,_,_,_⟩:=zac ho6;have t6:Tch (fun k=>w.heap.size≤k) w w6:=t2.trans (Tch.trans (by repeat(first|exact Tch.refl _ _|refine Tch.trans ?_ (Tch.drew _ _)|refine Tch.trans ?_ (Tch.alloc _ _ _))) (Tch.grown hg6 (fun k e=>.inl (n2 k e))));have n6:∀k,(Value.slice A6 (j+1) c6).ownBlock=some k→w.heap.size≤k:=fun k e=>(hl6 k e).elim (n2 k) (fun h=>by have:=t2.size;(try simp at h);omega))
    |(refine zak _ (by rfl) (.tmp 40) (.tmp 43) _ (by rfl) zaj ho6 (by rfl) (hkd.keepTo t6 (fun _ h9 h8=>⟨by omega,h8⟩)).src (by rfl) HDS.out (by unfold maxLen;omega) (by omega) ?_;intro v8 w8 ho8 hg8 hl8;obtain⟨A8,c8,rfl,_,_,_⟩:=zac ho8;have t8:Tch (fun k=>w.heap.size≤k) w w8:=t6.trans (Tch.grown hg8 (fun k e=>.inl (n6 k e)));have n8:=fun k e=>(hl8 k e).elim (n6 k) (fun h=>by have:=t6.size;(try simp at h);omega))
    )
  all_goals
   go_wp2;go_ret;exact⟨_,rfl,HF2.out _ _ ho8 n8 t8⟩
theorem zsp {w0 w:World} (hT0:Tf w0 w) (x:Int):
 Calls Tryz.prog 321 #[.slice none 0 0,.int .i64 x] w fun y w'=>∃u,y=.returned u∧zet w0 w' u [x]:=by
 have hbn:∀(W:World) (N:Nat),N=W.heap.size→∀j u,([Value.int .i64 x])[j]?=some u→(W.alloc (.cells #[.int .i64 x] 3)).cell? ⟨N,j,none⟩=some u:=fun W N e j u hu=>by
  rw[e,(Blk.new W 3 #[.int .i64 x]).cell j];simpa using hu
 have hmd:∀(W:World) (N:Nat),N=W.heap.size→(W.alloc (.cells #[] 3)).ownsRow 0 3 1 (.slice (some ⟨N,0,none⟩) 0 0) 0 []:=fun W N e=>by
  rw[e];exact zb8 (zel W 3 1 0 #[] (Nat.zero_le _) rfl)
 have hkt:Row (fun h=>h<w.heap.size) w (.slice none 0 0) 0 1 []:=Row.nil _ _ _;have hkd:Row (fun h=>h<w.heap.size) w (.slice none 0 0) 0 1 []:=Row.nil _ _ _;have HMS:=Lib.hid (show∀u∈([]:List Value),u.oneCell'=true from fun u hu=>by cases hu);have HDS:=HMS;have HF2:=Lib.hid (fun(w':World) (u:Value) (hown:w'.ownsRow 0 3 1 u (0+1+0) ([]++[.int .i64 x]++[])) (hb:∀g,u.ownBlock=some g→w.heap.size≤g) (t:Tch (fun k=>w.heap.size≤k) w w')=>show zet w0 w' u [x]from zqs (xs:=[]) (j:=0) hT0 (Nat.le_refl _) rfl hown hb t);go_enter Tryz.func321,Tryz.ntmps321;go_wp2_with fail;go_loopw [5] (fun k wr=>k=.int .i64 0∧w=wr) (fun _ _=>0)
 case atStart=>exact⟨rfl,rfl⟩
 case round=>
  obtain⟨rfl,rfl⟩:=hrel;go_wp2_with fail
  go_region_held3 (fun _=>True)
   (first|go_keep|exact trivial|trivial)
   (first
    |(refine zak _ (by rfl) (.tmp 33) (.tmp 36) _ (by rfl) zaj ((Tch.drew (fun _=>False) _).own (hmd w w.heap.size rfl) (fun _ _=>id)) (by rfl) ((hkt.keep (by repeat(first|exact Tch.refl _ _|refine Tch.trans ?_ (Tch.drew _ _)|refine Tch.trans ?_ (Tch.alloc _ _ _)))).src) (by rfl) HMS.out (by unfold maxLen;omega) (by omega) ?_;intro v2 w2 ho2 hg2 hl2;rw[Nat.zero_add,List.nil_append]at ho2;obtain⟨A2,c2,rfl,_,_,_⟩:=zac ho2;have t2:Tch (fun k=>w.heap.size≤k) w w2:=Tch.trans (by repeat(first|exact Tch.refl _ _|refine Tch.trans ?_ (Tch.drew _ _)|refine Tch.trans ?_ (Tch.alloc _ _ _))) (Tch.grown hg2 (fun k e=>.inl (by have e':=zaz e;omega)));have n2:∀k,(Value.slice A2 0 c2).ownBlock=some k→w.heap.size≤k:=fun k e=>(hl2 k e).elim (fun h=>by have e':=zaz h;omega) (fun h=>by(try simp at h);omega))
    |(refine zak _ (by rfl) (.tmp 33) (.tmp 36) _ (by rfl) zaj (((tal _ _).trans (Tch.drew _ _)).own (hmd w w.heap.size rfl) (fun _ _=>id)) (by rfl) ((hkt.keep (by repeat(first|exact Tch.refl _ _|refine Tch.trans ?_ (Tch.drew _ _)|refine Tch.trans ?_ (Tch.alloc _ _ _)))).src) (by rfl) HMS.out (by unfold maxLen;omega) (by omega) ?_;intro v2 w2 ho2 hg2 hl2;rw[Nat.zero_add,List.nil_append]at ho2;obtain⟨A2,c2,rfl,_,_,_⟩:=zac ho2;have t2:Tch (fun k=>w.heap.size≤k) w w2:=Tch.trans (by repeat(first|exact Tch.refl _ _|refine Tch.trans ?_ (Tch.drew _ _)|refine Tch.trans ?_ (Tch.alloc _ _ _))) (Tch.grown hg2 (fun k e=>.inl (by have e':=zaz e;omega)));have n2:∀k,(Value.slice A2 0 c2).ownBlock=some k→w.heap.size≤k:=fun k e=>(hl2 k e).elim (fun h=>by have e':=zaz h;omega) (fun h=>by(try simp at h);omega))
    |(refine zak _ (by rfl) (.tmp 33) (.tmp 36) _ (by rfl) zaj ((Tch.drew (fun _=>False) _).own (hmd (w.alloc (.cells #[.int .i64 x] 3)) (w.heap.size+1) (by simp)) (fun _ _=>id)) (by rfl) ((hkt.keep (by repeat(first|exact Tch.refl _ _|refine Tch.trans ?_ (Tch.drew _ _)|refine Tch.trans ?_ (Tch.alloc _ _ _)))).src) (by rfl) HMS.out (by unfold maxLen;omega) (by omega) ?_;intro v2 w2 ho2 hg2 hl2;rw[Nat.zero_add,List.nil_append]at ho2;obtain⟨A2,c2,rfl,_,_,_⟩:=zac ho2;have t2:Tch (fun k=>w.heap.size≤k) w w2:=Tch.trans (by repeat(first|exact Tch.refl _ _|refine Tch.trans ?_ (Tch.drew _ _)|refine Tch.trans ?_ (Tch.alloc _ _ _))) (Tch.grown hg2 (fun k e=>.inl (by have e':=zaz e;omega)));have n2:∀k,(Value.slice A2 0 c2).ownBlock=some k→w.heap.size≤k:=fun k e=>(hl2 k e).elim (fun h=>by have e':=zaz h;omega) (fun h=>by(try simp at h);omega))
    |(refine zak _ (by rfl) (.tmp 37) (.tmp 39) _ (by rfl) zaj (by first|exact ho2|exact ho2.alloc _) (by rfl) (Go.Gk.Src.one (g:=w2.heap.size) (news:=[.int .i64 x]) rfl (fun j u hu=>hbn w2 _ rfl j u hu)) (by rfl) (zbz _) (by unfold maxLen;omega) (by omega) ?_;intro v6 w6 ho6 hg6 hl6;obtain⟨A6,c6,rfl,_,_,_⟩:=zac ho6;have t6:Tch (fun k=>w.heap.size≤k) w w6:=t2.trans (Tch.trans (by repeat(first|exact Tch.refl _ _|refine Tch.trans ?_ (Tch.drew _ _)|refine Tch.trans ?_ (Tch.alloc _ _ _))) (Tch.grown hg6 (fun k e=>.inl (n2 k e))));have n6:∀k,(Value.slice A6 (0+1) c6).ownBlock=some k→w.heap.size≤k:=fun k e=>(hl6 k e).elim (n2 k) (fun h=>by have:=t2.size;(try simp at h);omega))
    |(refine zak _ (by rfl) (.tmp 37) (.tmp 39) _ (by rfl) zaj (by first|exact ho2|exact ho2.alloc _) (by rfl) (Go.Gk.Src.one (g:=w.heap.size+1) (news:=[.int .i64 x]) rfl (fun j u hu=>(Tch.grown (F:=fun k=>k=w.heap.size) hg2 (fun k e=>.inl (zaz e).symm)).cell_some (hbn (w.alloc (.cells #[] 3)) _ (by simp) j u hu) (by show¬w.heap.size+1=w.heap.size;omega))) (by rfl) (zbz _) (by unfold maxLen;omega) (by omega) ?_;intro v6 w6 ho6 hg6 hl6;obtain⟨A6,c6,rfl,_,_,_⟩:=zac ho6;have t6:Tch (fun k=>w.heap.size≤k) w w6:=t2.trans (Tch.trans (by repeat(first|exact Tch.refl _ _|refine Tch.trans ?_ (Tch.drew _ _)|refine Tch.trans ?_ (Tch.alloc _ _ _))) (Tch.grown hg6 (fun k e=>.inl (n2 k e))));have n6:∀k,(Value.slice A6 (0+1) c6).ownBlock=some k→w.heap.size≤k:=fun k e=>(hl6 k e).elim (n2 k) (fun h=>by have:=t2.size;(try simp at h);omega))
    |(refine zak _ (by rfl) (.tmp 37) (.tmp 39) _ (by rfl) zaj (by first|exact ho2|exact ho2.alloc _) (by rfl) (Go.Gk.Src.one (g:=w.heap.size) (news:=[.int .i64 x]) rfl (fun j u hu=>(Tch.grown (F:=fun k=>k=w.heap.size+1) hg2 (fun k e=>.inl (zaz e).symm)).cell_some ((tal _ _).cell_some (hbn w _ rfl j u hu) id) (by show¬w.heap.size=w.heap.size+1;omega))) (by rfl) (zbz _) (by unfold maxLen;omega) (by omega) ?_;intro v6 w6 ho6 hg6 hl6;obtain⟨A6,c6,rfl,_,_,_⟩:=zac ho6;have t6:Tch (fun k=>w.heap.size≤k) w w6:=t2.trans (Tch.trans (by repeat(first|exact Tch.refl _ _|refine Tch.trans ?_ (Tch.drew _ _)|refine Tch.trans ?_ (Tch.alloc _ _ _))) (Tch.grown hg6 (fun k e=>.inl (n2 k e))));have n6:∀k,(Value.slice A6 (0+1) c6).ownBlock=some k→w.heap.size≤k:=fun k e=>(hl6 k e).elim (n2 k) (fun h=>by have:=t2.size;(try simp at h);omega))
    |(refine zak _ (by rfl) (.tmp 40) (.tmp 43) _ (by rfl) zaj ho6 (by rfl) (hkd.keepTo t6 (fun _ h9 h8=>⟨by omega,h8⟩)).src (by rfl) HDS.out (by unfold maxLen;omega) (by omega) ?_;intro v8 w8 ho8 hg8 hl8;obtain⟨A8,c8,rfl,_,_,_⟩:=zac ho8;have t8:Tch (fun k=>w.heap.size≤k) w w8:=t6.trans (Tch.grown hg8 (fun k e=>.inl (n6 k e)));have n8:=fun k e=>(hl8 k e).elim (n6 k) (fun h=>by have:=t6.size;(try simp at h);omega))
    )
  all_goals
   go_wp2;go_ret;exact⟨_,rfl,HF2.out _ _ ho8 n8 t8⟩
theorem zsq {w0 w:World} {v:Value} {xs:List Int} (hO:zet w0 w v xs) (hv:xs=[]→v=.slice none 0 0) (hn:xs.length≤100000) (x:Int):
 Calls Tryz.prog 321 #[v,.int .i64 x] w fun y w'=>∃u,y=.returned u∧zet w0 w' u (zdq xs x):=by
 by_cases h:xs=[]
 ·rw[hv h,h];exact zsp hO.tch x
 ·obtain⟨A,c,rfl,h1,_,hA⟩:=zac hO.own;obtain⟨g,o,rfl⟩:=hO.row.head (List.length_pos_iff.2 h)
  rcases hA with hA|⟨g',hA⟩
  ·cases hA
  ·injection hA with hA;injection hA with hA1 hA2;subst hA1 hA2;exact zqt hO h h1 hn x
end Go.Proofs.YtnjhfcopphpkpaaGreatDoor
namespace Go.Gk.V33
open Go.RowKit
def zts (e a p:Int) (x:P7):Bool:=decide (x.2.2.2.1=e)&&decide (x.2.2.2.2.1=a)&&(decide (x.2.2.1≤p)&&x.2.2.2.2.2.1 !=0)
def zfb (l:List P7) (F:P7→Bool):List Int:=((l.filter F).map (·.2.2.2.2.2.1)).foldl zdq []
theorem with_ne (xs:List Int) (n:Int):zdq xs n≠[]:=by
 cases xs with
 |nil=>simp[zdq]
 |cons x r=>
  unfold zdq;split
  ·simp
  ·split<;>simp
theorem zqu {q:Int}:∀(zs acc:List Int),q∈zs.foldl zdq acc↔q∈acc∨q∈zs
 |[],acc=>by simp
 |z::r,acc=>by rw[List.foldl_cons,zqu r,ztr,List.mem_cons,or_assoc]
theorem zqv:∀(zs acc:List Int),(zs.foldl zdq acc).length≤acc.length+zs.length
 |[],acc=>Nat.le_refl _
 |z::r,acc=>by
  have h1:=zqv r (zdq acc z);have h2:=with_len acc z;rw[List.foldl_cons,List.length_cons];omega
theorem zvl {l:List P7} {F:P7→Bool} {j:Nat} (h:j<l.length):zfb (l.take (j+1)) F=if F l[j]=true then zdq (zfb (l.take j) F) l[j].2.2.2.2.2.1 else zfb (l.take j) F:=by
 unfold zfb;rw[ze6 F h];by_cases hh:F l[j]=true
 ·rw[if_pos hh,if_pos hh,List.map_append,List.foldl_append];rfl
 ·rw[if_neg hh,if_neg hh,List.append_nil]
theorem znt (l:List P7) (F:P7→Bool):(zfb l F).length≤l.length:=by
 unfold zfb;refine Nat.le_trans (zqv _ _) ?_;rw[List.length_nil,Nat.zero_add,List.length_map];exact List.length_filter_le _ _
theorem zvm {l:List Ent} {e a p q:Int}:q∈zfb (zbn l) (zts e a p)↔q∈zf1 (zay l) e a p:=by
 unfold zfb;rw[zqu,zxg,←zbr];constructor
 ·rintro(h|h)
  ·cases h
  ·obtain⟨x,hx,rfl⟩:=List.mem_map.1 h;obtain⟨h1,h2⟩:=List.mem_filter.1 hx;unfold zts at h2;simp only[Bool.and_eq_true,decide_eq_true_eq,bne_iff_ne,ne_eq]at h2;exact⟨h2.2.2,x.2.2,List.mem_map.2 ⟨x,h1,rfl⟩,h2.1.1,h2.1.2,h2.2.1,rfl⟩
 ·rintro⟨h0,y,hy,h1,h2,h3,h4⟩;obtain⟨x,hx,rfl⟩:=List.mem_map.1 hy;refine .inr (List.mem_map.2 ⟨x,List.mem_filter.2 ⟨hx,?_⟩,h4⟩);unfold zts;simp only[Bool.and_eq_true,decide_eq_true_eq,bne_iff_ne,ne_eq];exact⟨⟨h1,h2⟩,h3,fun e=>h0 (by rw[←h4];exact e)⟩
end Go.Gk.V33
namespace Go.Proofs.YtnjhfcopphpkpaaGreatDoor
open Go.RowKit Go.Gk Go.Gk.V33
theorem zmf {w:World} {v:Value} {us:List (Ent×Value)} (hu:EntsIs w v us) (hul:us.length≤300) (hll:∀p∈us,p.1.lines.length≤100) (e a p:Int):
 Calls Tryz.prog 291 #[v,.int .i64 e,.int .i64 a,.int .i64 p] w fun x w'=>∃u zs,x=.returned u∧zet w w' u zs∧zs.length≤100000∧∀q,q∈zs↔q∈zf1 (zay (us.map (·.1))) e a p:=by
 obtain⟨A,c,rfl,hc1,hc2⟩:=hu.row.form;have HL:=Lib.hid (zkq hu (by omega) (fun p hp=>by have:=hll p hp;omega))
 have hn:(zbn (us.map (·.1))).length≤100000:=by
  have h1:(zbn (us.map (·.1))).length=(zay (us.map (·.1))).length:=by rw[←zbr,List.length_map]
  have h2:=zd6 (us.map (·.1)) 100 (fun x hx=>by obtain⟨p,hp,rfl⟩:=List.mem_map.1 hx;exact hll p hp);rw[List.length_map]at h2;have h3:us.length*100≤300*100:=Nat.mul_le_mul_right _ hul;omega
 have HMEM:=Lib.hid (fun q=>zvm (l:=us.map (·.1)) (e:=e) (a:=a) (p:=p) (q:=q))
 obtain⟨G,hG⟩:∃G:Int→Prop,(fun q=>q∈zf1 (zay (us.map (·.1))) e a p)=G:=⟨_,rfl⟩
 have HG:=Lib.hid (fun q=>show(q∈zf1 (zay (us.map (·.1))) e a p)=G q by rw[←hG]);simp only[HG.out]at HMEM⊢;clear hG HG;generalize zbn (us.map (·.1))=l at *
 obtain⟨F,hF⟩:∃F,zts e a p=F:=⟨_,rfl⟩
 rw[hF]at HMEM;have HF:=Lib.hid (show∀x1 x2 x3 x4 x5 x6 x7,F (x1,x2,x3,x4,x5,x6,x7)=(decide (x4=e)&&decide (x5=a)&&(decide (x3≤p)&&x6 !=0))from fun x1 x2 x3 x4 x5 x6 x7=>by rw[←hF];rfl);clear hF hu hll hul;go_enter Tryz.func291,Tryz.ntmps291;go_wp2_with fail;refine HL.out.mono ?_;rintro _ w1 ⟨u,rfl,hU⟩;clear HL;obtain⟨U,cu,rfl,hu1,hu2⟩:=hU.form;have hrow:=hU.row;have tt:=hU.tch;clear hU;go_wp2_with fail;go_loopw [10,11] (fun out i wr=>∃(j:Nat) (xs:List Int),j≤l.length∧i=.int .i64 j∧zfb (l.take j) F=xs∧zet w1 wr out xs∧(xs=[]→out=.slice none 0 0)) (fun _ i _=>l.length-(intOf i).toNat)
 case atStart=>exact⟨0,[],Nat.zero_le _,rfl,rfl,Outs.start _ _ _ (Tch.refl _ _),fun _=>rfl⟩
 case round=>
  obtain⟨j,xs,hj,rfl,hx,hO,hv⟩:=hrel;obtain⟨O,co,rfl,ho1,ho2⟩:=hO.form;have HV:=Lib.hid hv;clear hv;have hxl:xs.length≤j:=by rw[←hx];exact Nat.le_trans (znt _ _) (by rw[List.length_take];omega)
  have HX:=Lib.hid hx;clear hx;by_cases hlt:j<l.length
  ·have hlt':(j:Int)<(l.length:Int):=by omega
   have hj0:=znn j;obtain⟨g,o,rfl⟩:=hrow.head (by omega);obtain⟨q0,q1,q2,q3,q4,q5,q6⟩:=Row.seven (hrow.keep hO.tch) zhf hlt rfl;have HR:=Lib.hid (fun ob=>Row.seven (hrow.keep (hO.tch.trans (tal wr ob))) zhf hlt rfl);have HS:=Lib.hid (show zfb (l.take (j+1)) F=if F l[j]=true then zdq xs l[j].2.2.2.2.2.1 else xs by rw[zvl hlt,HX.out]);generalize l[j]=s at *;obtain⟨x1,x2,x3,x4,x5,x6,x7⟩:=s;simp only at q0 q1 q2 q3 q4 q5 q6 HS HR;obtain⟨r0,r1,r2,r3,r4,r5,r6⟩:=HR.out (.cells #[.int .i64 x4,.int .i64 x5,.int .i64 x6,.int .i64 x7] 150);have hO:=hO.keep (Tch.alloc _ wr (.cells #[.int .i64 x4,.int .i64 x5,.int .i64 x6,.int .i64 x7] 150));by_cases h4:x4=e
   rotate_left
   ·have HS:=Lib.hid (show zfb (l.take (j+1)) F=xs by rw[HS.out,HF.out];simp[h4]);clear HF;go_wp2;go_roundw
    case rel=>exact⟨j+1,xs,by omega,by go_num,HS.out,hO,HV.out⟩
    case measure=>simp[intOf];omega
   subst h4;by_cases h5:x5=a
   rotate_left
   ·have HS:=Lib.hid (show zfb (l.take (j+1)) F=xs by rw[HS.out,HF.out];simp[h5]);clear HF;go_wp2;go_roundw
    case rel=>exact⟨j+1,xs,by omega,by go_num,HS.out,hO,HV.out⟩
    case measure=>simp[intOf];omega
   subst h5;by_cases h3:x3≤p
   rotate_left
   ·have HS:=Lib.hid (show zfb (l.take (j+1)) F=xs by rw[HS.out,HF.out];simp[h3]);clear HF;go_wp2;go_roundw
    case rel=>exact⟨j+1,xs,by omega,by go_num,HS.out,hO,HV.out⟩
    case measure=>simp[intOf];omega
   by_cases h6:x6=0
   ·subst h6;have HS2:=Lib.hid (show zfb (l.take (j+1)) F=xs by rw[HS.out,HF.out];simp);clear HF HS;go_wp2;go_roundw
    case rel=>exact⟨j+1,xs,by omega,by go_num,HS2.out,hO,HV.out⟩
    case measure=>simp[intOf];omega
   have b1:(x6 !=0)=true:=by simpa using h6
   have HS:=Lib.hid (show zfb (l.take (j+1)) F=zdq xs x6 by rw[HS.out,HF.out];simp[h3,h6]);have HW:=Lib.hid (zsq hO HV.out (by omega) x6);clear HF;go_wp2_with fail;refine HW.out.mono ?_;rintro _ w3 ⟨u3,rfl,hO3⟩;obtain⟨O3,co3,rfl,_,_⟩:=hO3.form;clear HW;go_wp2_with fail;go_roundw
   case rel=>exact⟨j+1,_,by omega,by go_num,HS.out,hO3,fun h9=>absurd h9 (with_ne _ _)⟩
   case measure=>simp[intOf];omega
  ·obtain rfl:l.length=j:=by omega
   rw[List.take_length]at HX;have e:=HX.out;subst e;go_wp2;go_ret;exact⟨_,rfl,_,hO.base tt,Nat.le_trans (znt _ _) hn,fun q=>HMEM.out q⟩
end Go.Proofs.YtnjhfcopphpkpaaGreatDoor
namespace Go.Gk.V33
open Go.RowKit
def hasP (b:Bks) (acc p x y:Int):Bool:=decide (y∈zf1 (zay b.entries) x acc p)
def zqw (b:Bks) (node acc p x y:Int):Bool:=(zq1 b.stakes p b.ents.length x y==node)&&hasP b acc p x y
def zjt (b:Bks) (node acc p x:Int):List (Int×Int):=((zal b.ents.length).filter (zqw b node acc p x)).map fun y=>(x,y)
theorem zqx {β:Type} {f g:Int→List β}:∀{l:List Int},(∀x∈l,f x=g x)→l.flatMap f=l.flatMap g
 |[],_=>rfl
 |x::r,h=>by rw[List.flatMap_cons,List.flatMap_cons,h x (List.mem_cons_self ..),zqx fun y hy=>h y (List.mem_cons_of_mem _ hy)]
theorem zyc {b:Bks} {p:Nat} (hp:p<24) (hok:zan b.stakes b.ents.length=true) (node acc:Int):(zal b.ents.length).flatMap (zjt b node acc p)=zeb b node acc p:=by
 unfold zeb;refine zqx fun x hx=>?_
 unfold zjt zdz zic;rw[List.filter_filter];congr 1;refine List.filter_congr fun y hy=>?_
 unfold zqw hasP;rw[meet_is hp hok (zgc.1 hx) (zgc.1 hy)]
theorem zsr (b:Bks) (node acc p x:Int):(zjt b node acc p x).length≤b.ents.length:=by
 unfold zjt;rw[List.length_map];exact Nat.le_trans (List.length_filter_le _ _) (by rw[za5];omega)
end Go.Gk.V33
namespace Go.Proofs.YtnjhfcopphpkpaaGreatDoor
open Go.RowKit Go.Gk Go.Gk.V33
section
variable {w:World} {e a s r l n:Value} {b:Bks} {us:List (Ent×Value)}
theorem zqy (h:BksAt w e a s r l n b us) (hul:us.length≤300) (hll:∀p∈us,p.1.lines.length≤100) (x acc p q:Int):
 Calls Tryz.prog 251 #[.agg #[e,a,s,r,l,n],.int .i64 x,.int .i64 acc,.int .i64 p,.int .i64 q] w fun y w'=>y=.returned (.bool (hasP b acc p x q))∧Tf w w':=by
 have tw:=tal w (.cells #[e,a,s,r,l,n] 29);have bB:=Blk.new w 29 #[e,a,s,r,l,n];have HPA:=Lib.hid (zmf (h.keep tw).ent hul hll x acc p);rw[h.map]at HPA;have HHP:=Lib.hid (show hasP b acc p x q=decide (q∈zf1 (zay b.entries) x acc p)from rfl);generalize hasP b acc p x q=hp at *;generalize zf1 (zay b.entries) x acc p=ps at *;obtain⟨Ae,ce,rfl,_,_⟩:=h.ents.form;obtain⟨Aa,ca,rfl,_,_⟩:=h.accs.form;obtain⟨As,cs,rfl,_,_⟩:=h.stakes.form;obtain⟨Ar,cr,rfl,_,_⟩:=h.rates.form;obtain⟨Al,cl,rfl,_,_⟩:=h.locks.form;obtain⟨An,cn,rfl,_,_⟩:=h.ent.row.form;clear h;go_enter Tryz.func251,Tryz.ntmps251;obtain⟨g0,g1,g2,g3,g4,g5⟩:=bB.f6;go_wp2_with fail;generalize w.alloc _=W at *;generalize w.heap.size=z at *;refine HPA.out.mono ?_;rintro _ w1 ⟨u,zs,rfl,hO,_,hmem⟩;have HH:=Lib.hid (zhk hO.row q);rw[show decide (q∈zs)=hp by rw[HHP.out,Bool.eq_iff_iff,decide_eq_true_iff,decide_eq_true_iff];exact hmem q]at HH;have T1:=tw.trans hO.tch;obtain⟨O,co,rfl,_,_⟩:=hO.form;clear HPA hO hmem g0 g1 g2 g3 g4 g5 HHP bB;go_wp2_with fail;refine HH.out.mono ?_;rintro _ _ ⟨rfl,rfl⟩;clear HH;go_wp2;go_ret;exact⟨rfl,T1⟩
theorem zss (h:BksAt w e a s r l n b us) (hul:us.length≤300) (hll:∀p∈us,p.1.lines.length≤100) (hok:zba b=true) {p:Nat} (hp:p<24) (node acc:Int) (hnode:1≤node):
 Calls Tryz.prog 198 #[.agg #[e,a,s,r,l,n],.int .i64 node,.int .i64 acc,.int .i64 (p:Int)] w fun x w'=>∃u:Value,x=.returned u∧Outs f2 2 275 w w' u (zeb b node acc p):=by
 obtain⟨h40,h400,hst⟩:=zec hok;have tw:=tal w (.cells #[e,a,s,r,l,n] 29);have bB:=Blk.new w 29 #[e,a,s,r,l,n];have HFO:=Lib.hid (ze9 (h.keep tw) h40 h400 hst (p:Int) (by omega) (by omega));have HME:=Lib.hid (fun w' (t9:Tf w w') x y=>zot (n:=b.ents.length) (h.keep t9).stakes h400 hst hp h40 x y);have HHA:=Lib.hid (fun w' (t9:Tf w w') x y=>zqy (h.keep t9) hul hll x acc (p:Int) y);have HPD:=Lib.hid (zyc hp hst node acc);have HRL:=Lib.hid (fun x=>zsr b node acc p x);have HOK0:=Lib.hid (fun x y=>show zqw b node acc p x y=((zq1 b.stakes p b.ents.length x y==node)&&hasP b acc p x y)from rfl);have HRW:=Lib.hid (fun x=>show zjt b node acc p x=((zal b.ents.length).filter (zqw b node acc p x)).map (fun y=>(x,y))from rfl);generalize zjt b node acc p=RW at *;generalize zqw b node acc p=OK at *;generalize hasP b acc p=HP at *;generalize zq1 b.stakes p b.ents.length=MD at *;generalize zeb b node acc p=PD at *;have hn40:(b.ents.length:Int)≤40:=by omega
 have hn41:b.ents.length≤40:=h40;have hnode0:(0:Int)<node:=by omega
 obtain⟨Ae,ce,rfl,_,_⟩:=h.ents.form;obtain⟨Aa,ca,rfl,_,_⟩:=h.accs.form;obtain⟨As,cs,rfl,_,_⟩:=h.stakes.form;obtain⟨Ar,cr,rfl,_,_⟩:=h.rates.form;obtain⟨Al,cl,rfl,_,_⟩:=h.locks.form;obtain⟨An,cn,rfl,_,_⟩:=h.ent.row.form;clear h hok hst h40 h400;go_enter Tryz.func198,Tryz.ntmps198;obtain⟨g0,g1,g2,g3,g4,g5⟩:=bB.f6;go_wp2_with fail;generalize w.alloc _=W at *;generalize hz:w.heap.size=z at *;refine HFO.out.mono ?_;rintro _ w1 ⟨rfl,t1⟩;have tF:=tal w1 (.cells #[.slice As b.stakes.length cs,.int .i64 (b.ents.length:Int),.int .i64 (p:Int)] 204);have bF:=Blk.new w1 204 #[.slice As b.stakes.length cs,.int .i64 (b.ents.length:Int),.int .i64 (p:Int)];have bB1:=(bB.keep t1 id).keep tF id;have T1:=(tw.trans t1).trans tF;clear HFO g0 g1 g2 g3 g4 g5 bB tw t1 tF;go_wp2_with fail;generalize w1.alloc _=W1 at *;generalize hz1:w1.heap.size=z1 at *;generalize hnn:b.ents.length=nn at *;go_loopw [10,11] (fun out i wr=>∃(j:Nat) (xs:List (Int×Int)),j≤nn∧i=.int .i64 ((j:Int)+1)∧(zal j).flatMap RW=xs∧xs.length≤j*40∧Outs f2 2 275 W1 wr out xs) (fun _ i _=>nn+1-(intOf i).toNat)
 case atStart=>exact⟨0,[],Nat.zero_le _,rfl,rfl,by simp,Outs.start _ _ _ (Tch.refl _ _)⟩
 case round=>
  obtain⟨j,xs,hj,rfl,hx,hxl,hO⟩:=hrel;obtain⟨O,co,rfl,ho1,ho2⟩:=hO.form;have HX:=Lib.hid hx;have hj0:=znn j;have bFr:=bF.keep hO.tch id;have n1:=bFr.at1;clear hx bFr;by_cases hlt:j<nn
  ·have hlt':(j:Int)+1≤(nn:Int):=by omega
   have HSN:=Lib.hid (show(zal (j+1)).flatMap RW=xs++RW ((j:Int)+1) by rw[zdf,List.flatMap_append,HX.out];simp);have HR1:=Lib.hid (HRW.out ((j:Int)+1));have HRL1:=Lib.hid (HRL.out ((j:Int)+1));have HOK1:=Lib.hid (HOK0.out ((j:Int)+1));generalize hOK1:OK ((j:Int)+1)=OK1 at HR1 HOK1;clear hOK1;go_wp2_with fail;go_loopw [10,12] (fun out i wr=>∃(k:Nat) (ys:List (Int×Int)),k≤nn∧i=.int .i64 ((k:Int)+1)∧xs++((zal k).filter OK1).map (fun y=>((j:Int)+1,y))=ys∧ys.length≤xs.length+k∧Outs f2 2 275 W1 wr out ys) (fun _ i _=>nn+1-(intOf i).toNat)
   case atStart=>exact⟨0,xs,Nat.zero_le _,rfl,by simp[zal],by omega,hO⟩
   case round=>
    clear hO ho1 ho2 n1;obtain⟨k,ys,hk,rfl,hy,hyl,hO⟩:=hrel;obtain⟨O,co,rfl,ho1,ho2⟩:=hO.form;have HY:=Lib.hid hy;have hk0:=znn k;have bFr:=bF.keep hO.tch id;have bBr:=bB1.keep hO.tch id;have Tr:=T1.trans hO.tch;clear hy;by_cases hkl:k<nn
    ·have hkl':(k:Int)+1≤(nn:Int):=by omega
     have HYN:=Lib.hid (show xs++((zal (k+1)).filter OK1).map (fun y=>((j:Int)+1,y))=ys++(if OK1 ((k:Int)+1)=true then[((j:Int)+1,(k:Int)+1)]else[]) by
      rw[zdf,zdg,List.map_append,←List.append_assoc,HY.out];congr 1
      by_cases hh:OK1 ((k:Int)+1)=true<;>simp[hh])
     have HOK2:=Lib.hid (HOK1.out ((k:Int)+1));generalize OK1 ((k:Int)+1)=ok at *;have HM1:=Lib.hid (HME.out wr Tr ((j:Int)+1) ((k:Int)+1));generalize MD ((j:Int)+1) ((k:Int)+1)=md at *;generalize hhp:HP ((j:Int)+1) ((k:Int)+1)=hp at *;have HHP:=Lib.hid hhp;clear hhp
     have hyl9:ys.length≤1640:=by
      have:j*40≤40*40:=Nat.mul_le_mul_right _ (by omega);omega
     obtain⟨f0,f1,f2⟩:=bFr.f3;go_wp2_with fail;refine HM1.out.mono ?_;rintro _ w3 ⟨rfl,t3⟩;have hO3:=hO.keep t3;have bB3:=bBr.keep t3 id;have T3:=Tr.trans t3;clear HM1 f0 f1 f2 hO bFr bBr t3 ho1 ho2;by_cases hmd:md=node
     rotate_left
     ·have hmb:(md==node)=false:=by simpa using hmd
      obtain rfl:ok=false:=by rw[HOK2.out,hmb];rfl
      have HYN:=Lib.hid (show xs++((zal (k+1)).filter OK1).map (fun y=>((j:Int)+1,y))=ys by rw[HYN.out];simp);clear hmd HOK2 bB3;go_wp2;go_roundw
      case rel=>exact⟨k+1,ys,by omega,by go_num,HYN.out,by omega,hO3⟩
      case measure=>simp[intOf]<;>omega
     have hmb:(md==node)=true:=by simpa using hmd
     have HH1:=Lib.hid (HHA.out w3 T3 ((j:Int)+1) ((k:Int)+1));have hok2:ok=hp:=by rw[HOK2.out,hmb];simp
     subst hok2;rw[HHP.out]at HH1;clear hmd HOK2 HHP;obtain⟨g0,g1,g2,g3,g4,g5⟩:=bB3.f6;go_wp2_with fail;refine HH1.out.mono ?_;rintro _ w4 ⟨rfl,t4⟩;have hO:=hO3.keep t4;clear HH1 g0 g1 g2 g3 g4 g5 hO3 bB3 T3 t4
     cases ok
     ·have HYN:=Lib.hid (show xs++((zal (k+1)).filter OK1).map (fun y=>((j:Int)+1,y))=ys by rw[HYN.out];simp);go_wp2;go_roundw
      case rel=>exact⟨k+1,ys,by omega,by go_num,HYN.out,by omega,hO⟩
      case measure=>simp[intOf]<;>omega
     ·have HYN:=Lib.hid (show xs++((zal (k+1)).filter OK1).map (fun y=>((j:Int)+1,y))=ys++[((j:Int)+1,(k:Int)+1)] by rw[HYN.out];simp);go_wp2_with (at_builtin;refine apd rowP2 (hO.own.alloc _) (Go.Gk.Src.one (news:=f2 ((j:Int)+1,(k:Int)+1)) rfl (fun m9 u9 hu9=>by rw[(Blk.new w4 275 #[.int .i64 ((j:Int)+1),.int .i64 ((k:Int)+1)]).cell m9];simpa[f2]using hu9)) (f2_one _) ?_;intro v2 wc ho2 hg2 hl2;have hO3:=hO.step (x:=((j:Int)+1,(k:Int)+1)) (Tch.alloc _ _ _) ho2 hg2 (fun g hg=>by simpa using hl2 g hg);obtain⟨O3,co3,rfl,_,_⟩:=zac ho2);go_roundw
      case rel=>exact⟨k+1,_,by omega,by go_num,HYN.out,by simp;omega,by simpa using hO3⟩
      case measure=>simp[intOf]<;>omega
    ·obtain rfl:k=nn:=by omega
     have hkl':¬(k:Int)+1≤(k:Int):=by omega
     have HXN:=Lib.hid (show(zal (j+1)).flatMap RW=ys by rw[HSN.out,HR1.out];exact HY.out);have n1:=bFr.at1
     have hyl9:ys.length≤(j+1)*40:=by
      have:(j+1)*40=j*40+40:=by omega
      omega
     clear bFr bBr;go_wp2;go_roundw
     case rel=>exact⟨j+1,ys,by omega,by go_num,HXN.out,hyl9,hO⟩
     case measure=>simp[intOf]<;>omega
  ·obtain rfl:j=nn:=by omega
   have hlt':¬(j:Int)+1≤(j:Int):=by omega
   obtain rfl:PD=xs:=by rw[←HPD.out];exact HX.out
   go_wp2;go_ret;exact⟨_,rfl,hO.base T1⟩
theorem zju (h:BksAt w e a s r l n b us) (hn:b.accs.length≤1000):
 Calls Tryz.prog 117 #[.agg #[e,a,s,r,l,n]] w fun y w'=>∃u,y=.returned u∧zet w w' u (zen b):=by
 have tw:=tal w (.cells #[e,a,s,r,l,n] 29);have bB:=Blk.new w 29 #[e,a,s,r,l,n];have HLV:=Lib.hid (ze7 (h.keep tw) (by omega));have HAC:=Lib.hid (fun w' (t9:Tf w w')=>(h.keep t9).accs)
 have HAT:=Lib.hid (fun x (hx:x∈zag b.accs)=>show∃(k:Nat) (hk:k<b.accs.length),x=(k:Int)+1∧zfh b x=b.accs[k].2.2.2 from by
  obtain⟨k,hk,hkx,hka⟩:=zd4 (zhj hx)
  exact⟨k,hk,hkx,ztf (hk:=hk) hka⟩)
 have hln:(zag b.accs).length≤1000:=by
  unfold zag;exact Nat.le_trans (List.length_filter_le _ _) (by rw[za5];omega)
 have HAP:Hid (zen b=(zag b.accs).filter (zfh b)):=Lib.hid rfl;generalize zen b=AP at *;generalize zag b.accs=L at *;generalize zfh b=F at *;obtain⟨Ae,ce,rfl,_,_⟩:=h.ents.form;obtain⟨Aa,ca,rfl,_,_⟩:=h.accs.form;obtain⟨As,cs,rfl,_,_⟩:=h.stakes.form;obtain⟨Ar,cr,rfl,_,_⟩:=h.rates.form;obtain⟨Al,cl,rfl,_,_⟩:=h.locks.form;obtain⟨An,cn,rfl,_,_⟩:=h.ent.row.form;clear h;go_enter Tryz.func117,Tryz.ntmps117;obtain⟨g0,g1,g2,g3,g4,g5⟩:=bB.f6;go_wp2_with fail;generalize w.alloc _=W at *;generalize w.heap.size=z at *;refine HLV.out.mono ?_;rintro _ w1 ⟨u,rfl,hL⟩;have hrow:=hL.row;have bB1:=bB.keep hL.tch id;have T1:=tw.trans hL.tch;obtain⟨U,cu,rfl,_,_⟩:=hL.form;clear HLV hL g0 g1 g2 g3 g4 g5 bB tw;go_wp2_with fail;go_loopw [4,5] (fun out i wr=>∃(j:Nat) (xs:List Int),j≤L.length∧i=.int .i64 (j:Int)∧(L.take j).filter F=xs∧zet w1 wr out xs) (fun _ i _=>L.length-(intOf i).toNat)
 case atStart=>exact⟨0,[],Nat.zero_le _,rfl,rfl,Outs.start _ _ _ (Tch.refl _ _)⟩
 case round=>
  obtain⟨j,xs,hj,rfl,hx,hO⟩:=hrel;obtain⟨O,co,rfl,ho1,ho2⟩:=hO.form;have hxl:xs.length≤j:=by rw[←hx];exact Nat.le_trans (List.length_filter_le _ _) (by rw[List.length_take];omega)
  have HX:=Lib.hid hx;have hj0:=znn j;clear hx;by_cases hlt:j<L.length
  ·have hlt':(j:Int)<(L.length:Int):=by omega
   have hl9:=hrow.keep hO.tch;obtain⟨g,o9,rfl⟩:=hl9.head (by omega);have q0:=Row.one hl9 zap hlt rfl;have HS:=Lib.hid (ze6 F hlt);rw[HX.out]at HS;obtain⟨k,hk,hkx,hkF⟩:=HAT.out L[j] (List.getElem_mem _);generalize L[j]=x at *;subst hkx;have hak:=HAC.out wr (T1.trans hO.tch);obtain⟨ga,oa,rfl⟩:=hak.head (by omega);obtain⟨p0,p1,p2,p3⟩:=Row.four hak zcm hk rfl;have HW:=Lib.hid (show wrap64 ((k:Int)+1-1)=(k:Int) by unfold wrap64;omega);have HKL:=Lib.hid (show(k:Int)<(b.accs.length:Int) by omega);generalize b.accs[k]=ac at *;obtain⟨a1,kd,a3,a4⟩:=ac;simp only at p0 p1 p2 p3 hkF;rw[hkF]at HS;have bBr:=bB1.keep hO.tch id;have k1:=bBr.at1;have hw:=HW.out;have hkl:=HKL.out;have hk0:=znn k;have X1:=wc0 k1;have X2:=wc0 q0;have X3:=wc0 p3;clear hl9 hak bBr hkF;go_wp2_with fail;refine zai (fun _=>False) [] 7 [] [] ?_ ?_
   ·exact trivial
   intro bef _;iterate 7 (refine zbt ?_;(try simp only[zaw]))
   refine za6 ?_;intro w2 hr hp1 hap;have t2:=(Tch.drew _ wr).trans hr;have hO:=hO.keep t2;have p3:=t2.cell_some p3 id;have q0:=t2.cell_some q0 id;clear hap hp1 hr X1 X2 X3 p0 p1 p2 k1 t2
   cases a4
   ·have HS:=Lib.hid (show(L.take (j+1)).filter F=xs by rw[HS.out];simp);go_wp2;go_roundw
    case rel=>exact⟨j+1,xs,by omega,by go_num,HS.out,hO⟩
    case measure=>simp[intOf];omega
   ·have HS:=Lib.hid (show(L.take (j+1)).filter F=xs++[(k:Int)+1] by rw[HS.out];simp);go_wp2_with ((at_builtin;refine apd zaj (hO.own.alloc _) (Go.Gk.Src.one (news:=[.int .i64 ((k:Int)+1)]) rfl (fun m9 u9 hu9=>by rw[(Blk.new (w2) 3 #[.int .i64 ((k:Int)+1)]).cell m9];simpa using hu9)) (by simp;rfl) ?_;intro v2 w2 ho2 hg2 hl2;have hO2:=hO.step (x:=(k:Int)+1) (Tch.alloc _ _ _) ho2 hg2 hl2;obtain⟨O2,co2,rfl,_,_⟩:=zac ho2));go_roundw
    case rel=>exact⟨j+1,_,by omega,by go_num,HS.out,hO2⟩
    case measure=>simp[intOf];omega
  ·obtain rfl:j=L.length:=by omega
   have hlt':¬(L.length:Int)<(L.length:Int):=by omega
   rw[List.take_length]at HX;obtain rfl:AP=xs:=by rw[HAP.out];exact HX.out
   go_wp2;go_ret;exact⟨_,rfl,hO.base T1⟩
theorem zm1 (h:BksAt w e a s r l n b us) (hul:us.length≤300) (hll:∀p∈us,p.1.lines.length≤100) (hok:zba b=true) {p:Nat} (hp:p<24) (c1 c2 c3 c4 c5 c6 acc:Int) (hc4:c4=(p:Int)) (hnode:1≤c2):
 Calls Tryz.prog 116 #[.agg #[e,a,s,r,l,n],.agg #[.int .i64 c1,.int .i64 c2,.int .i64 c3,.int .i64 c4,.int .i64 c5,.int .i64 c6],.int .i64 acc] w fun x w'=>∃u:Value,x=.returned u∧Outs za2 6 31 w w' u (zce b (c1,c2,c3,c4,c5,c6) acc):=by
 subst hc4;have ta:=tal w (.cells #[e,a,s,r,l,n] 29);have tb:=tal (w.alloc (.cells #[e,a,s,r,l,n] 29)) (.cells #[.int .i64 c1,.int .i64 c2,.int .i64 c3,.int .i64 (p:Int),.int .i64 c5,.int .i64 c6] 31);have tw:=ta.trans tb;have bB:=(Blk.new w 29 #[e,a,s,r,l,n]).keep tb id;have bC:=Blk.new2 w (.cells #[e,a,s,r,l,n] 29) 31 #[.int .i64 c1,.int .i64 c2,.int .i64 c3,.int .i64 (p:Int),.int .i64 c5,.int .i64 c6];have HOF:=Lib.hid (zss (h.keep tw) hul hll hok hp c2 acc hnode);have HLE:=Lib.hid (zl0 (zec hok).1 c2 acc p);have HSD:=Lib.hid (show zce b (c1,c2,c3,(p:Int),c5,c6) acc=(zeb b c2 acc p).map (zhq acc (p:Int) c5)from rfl);generalize zce b (c1,c2,c3,(p:Int),c5,c6) acc=SD at *;generalize zeb b c2 acc p=L at *;obtain⟨Ae,ce,rfl,_,_⟩:=h.ents.form;obtain⟨Aa,ca,rfl,_,_⟩:=h.accs.form;obtain⟨As,cs,rfl,_,_⟩:=h.stakes.form;obtain⟨Ar,cr,rfl,_,_⟩:=h.rates.form;obtain⟨Al,cl,rfl,_,_⟩:=h.locks.form;obtain⟨An,cn,rfl,_,_⟩:=h.ent.row.form;clear h hok ta tb;go_enter Tryz.func116,Tryz.ntmps116;obtain⟨g0,g1,g2,g3,g4,g5⟩:=bB.f6;obtain⟨h0,h1,h2,h3,h4,h5⟩:=bC.f6;go_wp2_with fail;generalize(w.alloc _).alloc _=W at *;generalize w.heap.size=z at *;refine HOF.out.mono ?_;rintro _ w1 ⟨u,rfl,hL⟩;have hrow:=hL.row;have bC1:=bC.keep hL.tch id;have T1:=tw.trans hL.tch;obtain⟨U,cu,rfl,_,_⟩:=hL.form;have hll9:L.length≤1600:=HLE.out;clear HOF hL g0 g1 g2 g3 g4 g5 h0 h1 h2 h3 h4 h5 bB bC tw;go_wp2_with fail;go_loopw [8,9] (fun out i wr=>∃(j:Nat) (xs:List Rt6),j≤L.length∧i=.int .i64 (j:Int)∧(L.take j).map (zhq acc (p:Int) c5)=xs∧Outs za2 6 31 w1 wr out xs) (fun _ i _=>L.length-(intOf i).toNat)
 case atStart=>exact⟨0,[],Nat.zero_le _,rfl,rfl,Outs.start _ _ _ (Tch.refl _ _)⟩
 case round=>
  obtain⟨j,xs,hj,rfl,hx,hO⟩:=hrel;obtain⟨O,co,rfl,ho1,ho2⟩:=hO.form;have hxl:xs.length≤j:=by rw[←hx,List.length_map,List.length_take];omega
  have HX:=Lib.hid hx;have hj0:=znn j;clear hx;by_cases hlt:j<L.length
  ·have hlt':(j:Int)<(L.length:Int):=by omega
   have hl9:=hrow.keep hO.tch;obtain⟨g,o9,rfl⟩:=hl9.head (by omega);obtain⟨q0,q1⟩:=Row.two hl9 f2_len hlt rfl;have HS:=Lib.hid (show(L.take (j+1)).map (zhq acc (p:Int) c5)=xs++[zhq acc (p:Int) c5 L[j]] by rw[List.take_succ_eq_append_getElem hlt,List.map_append,HX.out];rfl);generalize L[j]=q at *;obtain⟨x,y⟩:=q;simp only at q0 q1;unfold zhq at HS;simp only at HS;have bCr:=bC1.keep hO.tch id;have k3:=bCr.at3;have k4:=bCr.at4;have X1:=wc0 k3;have X2:=wc0 k4;have X3:=wc0 q0;have X4:=wc0 q1;clear hl9 bCr;go_wp2_with fail;refine zai (fun _=>False) [0] 16 [] [] ?_ ?_
   ·exact trivial
   intro bef _;iterate 16 (refine zbt ?_;(try simp only[zaw]))
   refine za6 ?_;intro w2 hr hp1 hap;have t2:=(Tch.drew _ wr).trans hr;have hO:=hO.keep t2;clear hap hp1 hr X1 X2 X3 X4 k3 k4 q0 q1 t2;have hO:=hO.keep (tal w2 (.cells #[.int .i64 3,.int .i64 x,.int .i64 acc,.int .i64 (p:Int),.int .i64 c5,.int .i64 y] 31));go_wp2_with (at_builtin;refine apd za1 hO.own (Go.Gk.Src.one (news:=za2 (3,x,acc,(p:Int),c5,y)) rfl (fun m9 u9 hu9=>by rw[(Blk.new w2 31 #[.int .i64 3,.int .i64 x,.int .i64 acc,.int .i64 (p:Int),.int .i64 c5,.int .i64 y]).cell m9];simpa[za2]using hu9)) (zjd _) ?_;intro v2 wc ho2 hg2 hl2;have hO2:=hO.step (x:=(3,x,acc,(p:Int),c5,y)) (Tch.refl _ _) ho2 hg2 hl2;obtain⟨O2,co2,rfl,_,_⟩:=zac ho2);go_roundw
   case rel=>exact⟨j+1,_,by omega,by go_num,HS.out,hO2⟩
   case measure=>simp[intOf];omega
  ·obtain rfl:j=L.length:=by omega
   have hlt':¬(L.length:Int)<(L.length:Int):=by omega
   rw[List.take_length]at HX;obtain rfl:SD=xs:=by rw[HSD.out];exact HX.out
   go_wp2;go_ret;exact⟨_,rfl,hO.base T1⟩
end
open Go.RowKit Go.Gk Go.Gk.V33
section
variable {w:World} {e a s r l n:Value} {b:Bks} {us:List (Ent×Value)}
theorem zoq (h:BksAt w e a s r l n b us) (hul:us.length≤300) (hll:∀p∈us,p.1.lines.length≤100) (hn:b.accs.length≤1000) (hpo:(zay b.entries).length≤10000) (hok:zba b=true) (c1 c2 c3 c4 c5 c6:Int):
 Calls Tryz.prog 45 #[.agg #[e,a,s,r,l,n],.agg #[.int .i64 c1,.int .i64 c2,.int .i64 c3,.int .i64 c4,.int .i64 c5,.int .i64 c6]] w (zfi b (c1,c2,c3,c4,c5,c6) w):=by
 have ta:=tal w (.cells #[e,a,s,r,l,n] 29);have tb:=tal (w.alloc (.cells #[e,a,s,r,l,n] 29)) (.cells #[.int .i64 c1,.int .i64 c2,.int .i64 c3,.int .i64 c4,.int .i64 c5,.int .i64 c6] 31);have tc:=tal ((w.alloc (.cells #[e,a,s,r,l,n] 29)).alloc (.cells #[.int .i64 c1,.int .i64 c2,.int .i64 c3,.int .i64 c4,.int .i64 c5,.int .i64 c6] 31)) (.cells #[.int .i64 0,.int .i64 0,.slice none 0 0,.slice none 0 0,.int .i64 0,.int .i64 0,.int .i64 0,.int .i64 0,.int .i64 0,.int .i64 0,.bool false,.int .i64 0,.int .i64 0,.bool false] 50);have td:=tal (((w.alloc (.cells #[e,a,s,r,l,n] 29)).alloc (.cells #[.int .i64 c1,.int .i64 c2,.int .i64 c3,.int .i64 c4,.int .i64 c5,.int .i64 c6] 31)).alloc (.cells #[.int .i64 0,.int .i64 0,.slice none 0 0,.slice none 0 0,.int .i64 0,.int .i64 0,.int .i64 0,.int .i64 0,.int .i64 0,.int .i64 0,.bool false,.int .i64 0,.int .i64 0,.bool false] 50)) (.cells #[.int .i64 0,.int .i64 0,.slice none 0 0,.slice none 0 0,.int .i64 0,.int .i64 0,.int .i64 0,.int .i64 0,.int .i64 0,.int .i64 0,.bool false,.int .i64 0,.int .i64 0,.bool false] 50);have tcd:=tc.trans td;have tw:=(ta.trans tb).trans tcd;have bB:=((Blk.new w 29 #[e,a,s,r,l,n]).keep tb id).keep tcd id;have bC:=(Blk.new2 w (.cells #[e,a,s,r,l,n] 29) 31 #[.int .i64 c1,.int .i64 c2,.int .i64 c3,.int .i64 c4,.int .i64 c5,.int .i64 c6]).keep tcd id;have bO:Blk ((((w.alloc (.cells #[e,a,s,r,l,n] 29)).alloc (.cells #[.int .i64 c1,.int .i64 c2,.int .i64 c3,.int .i64 c4,.int .i64 c5,.int .i64 c6] 31)).alloc (.cells #[.int .i64 0,.int .i64 0,.slice none 0 0,.slice none 0 0,.int .i64 0,.int .i64 0,.int .i64 0,.int .i64 0,.int .i64 0,.int .i64 0,.bool false,.int .i64 0,.int .i64 0,.bool false] 50)).alloc (.cells #[.int .i64 0,.int .i64 0,.slice none 0 0,.slice none 0 0,.int .i64 0,.int .i64 0,.int .i64 0,.int .i64 0,.int .i64 0,.int .i64 0,.bool false,.int .i64 0,.int .i64 0,.bool false] 50)) (w.heap.size+1+1) 50 #[.int .i64 0,.int .i64 0,.slice none 0 0,.slice none 0 0,.int .i64 0,.int .i64 0,.int .i64 0,.int .i64 0,.int .i64 0,.int .i64 0,.bool false,.int .i64 0,.int .i64 0,.bool false]:=by simpa using(Blk.new ((w.alloc (.cells #[e,a,s,r,l,n] 29)).alloc (.cells #[.int .i64 c1,.int .i64 c2,.int .i64 c3,.int .i64 c4,.int .i64 c5,.int .i64 c6] 31)) 50 #[.int .i64 0,.int .i64 0,.slice none 0 0,.slice none 0 0,.int .i64 0,.int .i64 0,.int .i64 0,.int .i64 0,.int .i64 0,.int .i64 0,.bool false,.int .i64 0,.int .i64 0,.bool false]).keep td id
 have bR:Blk ((((w.alloc (.cells #[e,a,s,r,l,n] 29)).alloc (.cells #[.int .i64 c1,.int .i64 c2,.int .i64 c3,.int .i64 c4,.int .i64 c5,.int .i64 c6] 31)).alloc (.cells #[.int .i64 0,.int .i64 0,.slice none 0 0,.slice none 0 0,.int .i64 0,.int .i64 0,.int .i64 0,.int .i64 0,.int .i64 0,.int .i64 0,.bool false,.int .i64 0,.int .i64 0,.bool false] 50)).alloc (.cells #[.int .i64 0,.int .i64 0,.slice none 0 0,.slice none 0 0,.int .i64 0,.int .i64 0,.int .i64 0,.int .i64 0,.int .i64 0,.int .i64 0,.bool false,.int .i64 0,.int .i64 0,.bool false] 50)) (w.heap.size+1+1+1) 50 #[.int .i64 0,.int .i64 0,.slice none 0 0,.slice none 0 0,.int .i64 0,.int .i64 0,.int .i64 0,.int .i64 0,.int .i64 0,.int .i64 0,.bool false,.int .i64 0,.int .i64 0,.bool false]:=by simpa using Blk.new (((w.alloc (.cells #[e,a,s,r,l,n] 29)).alloc (.cells #[.int .i64 c1,.int .i64 c2,.int .i64 c3,.int .i64 c4,.int .i64 c5,.int .i64 c6] 31)).alloc (.cells #[.int .i64 0,.int .i64 0,.slice none 0 0,.slice none 0 0,.int .i64 0,.int .i64 0,.int .i64 0,.int .i64 0,.int .i64 0,.int .i64 0,.bool false,.int .i64 0,.int .i64 0,.bool false] 50)) 50 #[.int .i64 0,.int .i64 0,.slice none 0 0,.slice none 0 0,.int .i64 0,.int .i64 0,.int .i64 0,.int .i64 0,.int .i64 0,.int .i64 0,.bool false,.int .i64 0,.int .i64 0,.bool false]
 have HH:=Lib.hid (fun w' (t9:Tf w w')=>h.keep t9);have HM:=Lib.hid (zed (h.keep tw) (by omega) (c1,c2,c3,c4,c5,c6) 6 6);unfold zcq at HM;simp only at HM;have HFA:=Lib.hid (fun h=>zdo (b:=b) (c:=(c1,c2,c3,c4,c5,c6)) (lo:=6) (hi:=6) h);have HBAD:=Lib.hid (elim_bad (b:=b) (c:=(c1,c2,c3,c4,c5,c6)));have HGOOD:=Lib.hid (show za7 b (c1,c2,c3,c4,c5,c6) 6 6=0→zcf b (c1,c2,c3,c4,c5,c6)=({Rcp.none with plus:=zgb b (c1,c2,c3,c4,c5,c6),minus:=ze4 b (c1,c2,c3,c4,c5,c6)},0)from fun h=>by unfold zcf;rw[if_pos h]);have H3P:=Lib.hid (zp3 hok);have HOK:=Lib.hid hok;have HSL:=Lib.hid (fun x=>zp2 (zec hok).1 (c1,c2,c3,c4,c5,c6) x);have HPL:=Lib.hid (plus_len b (c1,c2,c3,c4,c5,c6))
 obtain⟨m,hm⟩:∃m,za7 b (c1,c2,c3,c4,c5,c6) 6 6=m:=⟨_,rfl⟩
 rw[hm]at HM HFA HBAD HGOOD;obtain⟨Ae,ce,rfl,_,_⟩:=h.ents.form;obtain⟨Aa,ca,rfl,_,_⟩:=h.accs.form;obtain⟨As,cs,rfl,_,_⟩:=h.stakes.form;obtain⟨Ar,cr,rfl,_,_⟩:=h.rates.form;obtain⟨Al,cl,rfl,_,_⟩:=h.locks.form;obtain⟨An,cn,rfl,_,_⟩:=h.ent.row.form;clear hm h hok ta tb tc td tcd;go_enter Tryz.func45,Tryz.ntmps45;obtain⟨g0,g1,g2,g3,g4,g5⟩:=bB.f6;obtain⟨k0,k1,k2,k3,k4,k5⟩:=bC.f6;go_wp2_with fail;generalize(((w.alloc (.cells #[.slice Ae b.ents.length ce,.slice Aa b.accs.length ca,.slice As b.stakes.length cs,.slice Ar b.rates.length cr,.slice Al b.locks.length cl,.slice An us.length cn] 29)).alloc (.cells #[.int .i64 c1,.int .i64 c2,.int .i64 c3,.int .i64 c4,.int .i64 c5,.int .i64 c6] 31)).alloc (.cells #[.int .i64 0,.int .i64 0,.slice none 0 0,.slice none 0 0,.int .i64 0,.int .i64 0,.int .i64 0,.int .i64 0,.int .i64 0,.int .i64 0,.bool false,.int .i64 0,.int .i64 0,.bool false] 50)).alloc _=W at *;generalize hzw:w.heap.size=z at *;have HZW:=Lib.hid hzw;clear hzw;refine HM.out.mono ?_;rintro _ w1 ⟨rfl,t1⟩;have bB1:=bB.keep t1 id;have bC1:=bC.keep t1 id;have bO1:=bO.keep t1 id;have bR1:=bR.keep t1 id;have T1:=tw.trans t1;clear HM bB bC bO bR tw t1 g0 g1 g2 g3 g4 g5 k0 k1 k2 k3 k4 k5;by_cases hm0:m=0
 rotate_left
 ·have hmb:(m !=0)=true:=by simpa using hm0
  have HRS:=Lib.hid (HBAD.out hm0);clear hm0 HFA HBAD HGOOD H3P HOK HSL HPL HH bB1 bC1;obtain⟨f0,f1,f2,f3,f4,f5,f6,f7,f8,f9,f10,f11,f12,f13⟩:=bR1.f14;clear bR1;go_wp2_with (refine stH (z+1+1) #[.int .i64 0,.int .i64 0,.slice none 0 0,.slice none 0 0,.int .i64 0,.int .i64 0,.int .i64 0,.int .i64 0,.int .i64 0,.int .i64 0,.bool false,.int .i64 0,.int .i64 0,.bool false] bO1 ?_);intro w9 HF HTF;clear bO1 f0 f1 f2 f3 f4 f5 f6 f7 f8 f9 f10 f11 f12 f13;go_wp2;(try simp only[exS]);refine zbi HF.out ?_;unfold zfi;rw[show zcf b (c1,c2,c3,c4,c5,c6)=(Rcp.none,m)from HRS.out];exact⟨_,rfl,⟨_,_,rfl,Row.nil _ _ _,Row.nil _ _ _⟩,T1.trans' (F':=fun g=>g=z+1+1) HTF.out (fun i hi=>.inr (by have hi:i=z+1+1:=hi;have:=HZW.out;omega))⟩
 subst hm0;have HG:=Lib.hid (HGOOD.out rfl);obtain⟨_,⟨hp0,hp1x⟩,hnode,hlf⟩:=HFA.out rfl;(try simp only at hp0 hp1x hnode hlf)
 obtain⟨p,hc4⟩:∃p:Nat,c4=(p:Int):=⟨c4.toNat,by omega⟩
 have hp24:p<24:=by omega
 obtain⟨k,hk,hkx,hka⟩:=zd4 hlf;have HPT:=Lib.hid (ztf (hk:=hk) hka);have hak:=(HH.out w1 T1).accs;obtain⟨ga,oa,rfl⟩:=hak.head (by omega);obtain⟨p0,p1,p2,p3⟩:=Row.four hak zcm hk rfl;have hw1:wrap64 (c3-1)=(k:Int):=by rw[hkx];unfold wrap64;omega
 have hkl:(k:Int)<(b.accs.length:Int):=by omega
 have hk0:=znn k;have HAC:=Lib.hid (fun w' (t9:Tf w w')=>zju (HH.out w' t9) hn);have HSI:=Lib.hid (fun w' (t9:Tf w w') x=>zm1 (HH.out w' t9) hul hll HOK.out hp24 c1 c2 c3 c4 c5 c6 x hc4 hnode.1);have HEP:Hid (zgb b (c1,c2,c3,c4,c5,c6)=if c3=3 then(zen b).flatMap (zce b (c1,c2,c3,c4,c5,c6))else[]):=Lib.hid rfl;have HEM:Hid (ze4 b (c1,c2,c3,c4,c5,c6)=if zfh b c3=true then zce b (c1,c2,c3,c4,c5,c6) c3 else[]):=Lib.hid rfl
 have HAPL:=Lib.hid (show(zen b).length≤1000 by
  unfold zen zag;refine Nat.le_trans (List.length_filter_le _ _) (Nat.le_trans (List.length_filter_le _ _) ?_)
  rw[za5];exact hn)
 generalize zgb b (c1,c2,c3,c4,c5,c6)=EP at *;generalize ze4 b (c1,c2,c3,c4,c5,c6)=EM at *;generalize zce b (c1,c2,c3,c4,c5,c6)=SD at *;generalize b.accs[k]=ac at *;obtain⟨a1,kd,a3,a4⟩:=ac;(try simp only at p0 p1 p2 p3 HPT);have HKX:=Lib.hid hkx;clear hc4;clear hk hka hak HFA HBAD HGOOD hp0 hp1x hlf p0 p1 p2 hkx;obtain⟨k0,k1,k2,k3,k4,k5⟩:=bC1.f6;obtain⟨g0,g1,g2,g3,g4,g5⟩:=bB1.f6
 cases a4;rotate_left
 ·--a leaf with partners:the sides are taken off
  have h33:¬c3=3:=fun h9=>by have h8:=H3P.out;rw[←h9,HPT.out]at h8;cases h8
  have h33b:(c3==3)=false:=by simpa using h33
  have hep:=HEP.out;rw[if_neg h33]at hep;have hem:=HEM.out;rw[if_pos HPT.out]at hem;have HS1:=Lib.hid (HSI.out w1 T1 c3);rw[←hem]at HS1;have HRS:=Lib.hid (show zcf b (c1,c2,c3,c4,c5,c6)=({Rcp.none with plus:=[],minus:=EM},0) by rw[HG.out,hep]);clear HEP HEM hep hem HSI HPT H3P HG HPL HSL;go_wp2_with fail;refine HS1.out.mono ?_;rintro _ w2 ⟨u,rfl,hO⟩;have bR2:=bR1.keep hO.tch id;have bO2:=bO1.keep hO.tch id;have bB2:=bB1.keep hO.tch id;have bC2:=bC1.keep hO.tch id;have T2:=T1.trans hO.tch;have hz1:z+4≤w1.heap.size:=by have:=bR1.lt;omega
  have hrowN:=hO.rowN;obtain⟨U,cu,rfl,_,_⟩:=hO.form;clear HS1 hO bR1 bO1 bB1 bC1 T1 p3 k0 k1 k2 k3 k4 k5 g0 g1 g2 g3 g4 g5;go_wp2_with (refine zab rfl _ _ _ rfl (z+1+1+1) 3 (.slice U EM.length cu) (by rfl) (by rfl) rfl (by rfl) bR2 (by simp) ?_;refine Hid.out ?_);refine Lib.hid ?_;intro w3 bR3 ts3;(try simp only[List.setIfInBounds_toArray,List.set_cons_succ,List.set_cons_zero]at bR3);have bO3:=bO2.keep ts3 (by omega);have bB3:=bB2.keep ts3 (by omega);have bC3:=bC2.keep ts3 (by omega);have hrow3:=Row.keepTo (P':=fun g=>w1.heap.size≤g) hrowN ts3 (fun g _ hg=>⟨fun e9=>by have e9:g=z+1+1+1:=e9;have hg:w1.heap.size≤g:=hg;omega,hg⟩);have T3:=T2.trans' ts3 (fun i hi=>.inr (by have hi:i=z+1+1+1:=hi;have:=HZW.out;omega));clear hrowN ts3 bR2 bO2 bB2 bC2 T2;have HA1:=Lib.hid (HAC.out w3 T3);obtain⟨g0,g1,g2,g3,g4,g5⟩:=bB3.f6;clear HAC bB3 HH;go_wp2_with fail;refine HA1.out.mono ?_;rintro _ w4 ⟨u4,rfl,hO4⟩;have bR4:=bR3.keep hO4.tch id;have bO4:=bO3.keep hO4.tch id;have bC4:=bC3.keep hO4.tch id;have T4:=T3.trans hO4.tch;have hrow4:=hrow3.keep hO4.tch;have hu4:=HAPL.out;obtain⟨U4,cu4,rfl,_,_⟩:=hO4.form;obtain⟨k0,k1,k2,k3,k4,k5⟩:=bC4.f6;clear HA1 hO4 bR3 bO3 bC3 T3 g0 g1 g2 g3 g4 g5 bC4;go_wp2_with fail;go_loopw [9] (fun i wr=>i=.int .i64 0∧wr=w4) (fun _ _=>0)
  case atStart=>exact⟨rfl,rfl⟩
  case round=>
   obtain⟨rfl,rfl⟩:=hrel;rcases Nat.eq_zero_or_pos (zen b).length with h0|h0
   ·have hlt:¬(0:Int)<((zen b).length:Int):=by omega
    clear k0 k1 k2 k3 k4 k5;obtain⟨f0,f1,f2,f3,f4,f5,f6,f7,f8,f9,f10,f11,f12,f13⟩:=bR4.f14;clear bR4;go_wp2_with (refine stH (z+1+1) #[.int .i64 0,.int .i64 0,.slice none 0 0,.slice U EM.length cu,.int .i64 0,.int .i64 0,.int .i64 0,.int .i64 0,.int .i64 0,.int .i64 0,.bool false,.int .i64 0,.int .i64 0,.bool false] bO4 ?_);intro w9 HF HTF;clear bO4 f0 f1 f2 f3 f4 f5 f6 f7 f8 f9 f10 f11 f12 f13;go_wp2;(try simp only[exS]);refine zbi HF.out ?_;unfold zfi;rw[show zcf b (c1,c2,c3,c4,c5,c6)=({Rcp.none with plus:=[],minus:=EM},0)from HRS.out];exact⟨_,rfl,⟨_,_,rfl,Row.nil _ _ _,Row.keepTo (P':=fun _=>True) hrow4 HTF.out (fun g _ hg=>⟨fun e9=>by have e9:g=z+1+1:=e9;have hg:w1.heap.size≤g:=hg;omega,trivial⟩)⟩,T4.trans' (F':=fun g=>g=z+1+1) HTF.out (fun i hi=>.inr (by have hi:i=z+1+1:=hi;have:=HZW.out;omega))⟩
   ·have hlt:(0:Int)<((zen b).length:Int):=by omega
    obtain⟨f0,f1,f2,f3,f4,f5,f6,f7,f8,f9,f10,f11,f12,f13⟩:=bR4.f14;clear bR4;go_wp2_with (refine stH (z+1+1) #[.int .i64 0,.int .i64 0,.slice none 0 0,.slice U EM.length cu,.int .i64 0,.int .i64 0,.int .i64 0,.int .i64 0,.int .i64 0,.int .i64 0,.bool false,.int .i64 0,.int .i64 0,.bool false] bO4 ?_);intro w9 HF HTF;clear bO4 f0 f1 f2 f3 f4 f5 f6 f7 f8 f9 f10 f11 f12 f13;go_wp2;(try simp only[exS]);refine zbi HF.out ?_;unfold zfi;rw[show zcf b (c1,c2,c3,c4,c5,c6)=({Rcp.none with plus:=[],minus:=EM},0)from HRS.out];exact⟨_,rfl,⟨_,_,rfl,Row.nil _ _ _,Row.keepTo (P':=fun _=>True) hrow4 HTF.out (fun g _ hg=>⟨fun e9=>by have e9:g=z+1+1:=e9;have hg:w1.heap.size≤g:=hg;omega,trivial⟩)⟩,T4.trans' (F':=fun g=>g=z+1+1) HTF.out (fun i hi=>.inr (by have hi:i=z+1+1:=hi;have:=HZW.out;omega))⟩
 ·by_cases h33:c3=3
  rotate_left
  ·have h33b:(c3==3)=false:=by simpa using h33
   have hep:=HEP.out;rw[if_neg h33]at hep;have hem:=HEM.out;rw[if_neg (by rw[HPT.out];simp)]at hem;have HRS:=Lib.hid (show zcf b (c1,c2,c3,c4,c5,c6)=({Rcp.none with plus:=[],minus:=[]},0) by rw[HG.out,hep,hem]);clear HEP HEM hep hem HSI HPT H3P HG HPL HSL HKX;have HA1:=Lib.hid (HAC.out w1 T1);obtain⟨g0,g1,g2,g3,g4,g5⟩:=bB1.f6;clear HAC bB1 HH;go_wp2_with fail;refine HA1.out.mono ?_;rintro _ w4 ⟨u4,rfl,hO4⟩;have bR4:=bR1.keep hO4.tch id;have bO4:=bO1.keep hO4.tch id;have bC4:=bC1.keep hO4.tch id;have T4:=T1.trans hO4.tch;have hu4:=HAPL.out;obtain⟨U4,cu4,rfl,_,_⟩:=hO4.form;obtain⟨k0,k1,k2,k3,k4,k5⟩:=bC4.f6;clear HA1 hO4 bR1 bO1 bC1 T1 g0 g1 g2 g3 g4 g5 bC4;go_wp2_with fail;go_loopw [9] (fun i wr=>i=.int .i64 0∧wr=w4) (fun _ _=>0)
   case atStart=>exact⟨rfl,rfl⟩
   case round=>
    obtain⟨rfl,rfl⟩:=hrel;rcases Nat.eq_zero_or_pos (zen b).length with h0|h0
    ·have hlt:¬(0:Int)<((zen b).length:Int):=by omega
     clear k0 k1 k2 k3 k4 k5;obtain⟨f0,f1,f2,f3,f4,f5,f6,f7,f8,f9,f10,f11,f12,f13⟩:=bR4.f14;clear bR4;go_wp2_with (refine stH (z+1+1) #[.int .i64 0,.int .i64 0,.slice none 0 0,.slice none 0 0,.int .i64 0,.int .i64 0,.int .i64 0,.int .i64 0,.int .i64 0,.int .i64 0,.bool false,.int .i64 0,.int .i64 0,.bool false] bO4 ?_);intro w9 HF HTF;clear bO4 f0 f1 f2 f3 f4 f5 f6 f7 f8 f9 f10 f11 f12 f13;go_wp2;(try simp only[exS]);refine zbi HF.out ?_;unfold zfi;rw[show zcf b (c1,c2,c3,c4,c5,c6)=({Rcp.none with plus:=[],minus:=[]},0)from HRS.out];exact⟨_,rfl,⟨_,_,rfl,Row.nil _ _ _,Row.nil _ _ _⟩,T4.trans' (F':=fun g=>g=z+1+1) HTF.out (fun i hi=>.inr (by have hi:i=z+1+1:=hi;have:=HZW.out;omega))⟩
    ·have hlt:(0:Int)<((zen b).length:Int):=by omega
     obtain⟨f0,f1,f2,f3,f4,f5,f6,f7,f8,f9,f10,f11,f12,f13⟩:=bR4.f14;clear bR4;go_wp2_with (refine stH (z+1+1) #[.int .i64 0,.int .i64 0,.slice none 0 0,.slice none 0 0,.int .i64 0,.int .i64 0,.int .i64 0,.int .i64 0,.int .i64 0,.int .i64 0,.bool false,.int .i64 0,.int .i64 0,.bool false] bO4 ?_);intro w9 HF HTF;clear bO4 f0 f1 f2 f3 f4 f5 f6 f7 f8 f9 f10 f11 f12 f13;go_wp2;(try simp only[exS]);refine zbi HF.out ?_;unfold zfi;rw[show zcf b (c1,c2,c3,c4,c5,c6)=({Rcp.none with plus:=[],minus:=[]},0)from HRS.out];exact⟨_,rfl,⟨_,_,rfl,Row.nil _ _ _,Row.nil _ _ _⟩,T4.trans' (F':=fun g=>g=z+1+1) HTF.out (fun i hi=>.inr (by have hi:i=z+1+1:=hi;have:=HZW.out;omega))⟩
  have h33b:(c3==3)=true:=by simpa using h33
  have hep:=HEP.out;rw[if_pos h33]at hep;have hem:=HEM.out;rw[if_neg (by rw[HPT.out];simp)]at hem;have HRS:=Lib.hid (show zcf b (c1,c2,c3,c4,c5,c6)=({Rcp.none with plus:=(zen b).flatMap SD,minus:=[]},0) by rw[HG.out,hep,hem]);have HA1:=Lib.hid (HAC.out w1 T1);have HPL2:=Lib.hid (Nat.le_trans HPL.out hpo);have HSL2:=HSL;clear HEP HEM hep hem HPT H3P HG HAC HPL HSL HKX h33;go_wp2_with fail;refine HA1.out.mono ?_;rintro _ w4 ⟨u4,rfl,hO4⟩;have bR4:=bR1.keep hO4.tch id;have bO4:=bO1.keep hO4.tch id;have bC4:=bC1.keep hO4.tch id;have bB4:=bB1.keep hO4.tch id;have T4:=T1.trans hO4.tch;have hz4:z+4≤w4.heap.size:=by have:=bR4.lt;omega
  have hu4:=HAPL.out;generalize zen b=L at *;have HROW:=Lib.hid (fun wr (ht:Tch (fun g=>g=z+1+1+1) w4 wr)=>Row.keepTo (P':=fun _=>True) (Row.own hO4.own (P:=fun g=>w1.heap.size≤g) (fun g hg=>(hO4.own.lt g hg).1)) ht (fun g _ hg=>⟨fun e9=>by have e9:g=z+1+1+1:=e9;have hg:w1.heap.size≤g:=hg;have:=bR1.lt;omega,trivial⟩));obtain⟨U4,cu4,rfl,_,_⟩:=hO4.form;have hln:(L.length:Int)≤1000:=by omega
  clear HA1 hO4 bR1 bO1 bC1 bB1 T1 p3 g0 g1 g2 g3 g4 g5 k0 k1 k2 k3 k4 k5;go_wp2_with fail;go_loopw [9] (fun i wr=>∃(j:Nat) (xs:List Rt6) (O:Option Addr) (co:Nat),j≤L.length∧i=.int .i64 j∧(L.take j).flatMap SD=xs∧xs.length≤j*1600∧Blk wr (z+1+1+1) 50 #[.int .i64 0,.int .i64 0,.slice O xs.length co,.slice none 0 0,.int .i64 0,.int .i64 0,.int .i64 0,.int .i64 0,.int .i64 0,.int .i64 0,.bool false,.int .i64 0,.int .i64 0,.bool false]∧wr.ownsRow w4.heap.size 31 6 (.slice O xs.length co) xs.length (xs.flatMap za2)∧Tch (fun g=>g=z+1+1+1) w4 wr) (fun i _=>L.length-(intOf i).toNat)
  case atStart=>exact⟨0,[],none,0,Nat.zero_le _,rfl,rfl,by simp,bR4,World.ownsRow_nil _ _ _ _,Tch.refl _ _⟩
  case round=>
   obtain⟨j,xs,O,co,hj,rfl,hxs,hxl,hR,hown,ht⟩:=hrel;have HXS:=Lib.hid hxs;have hj0:=znn j;have Tr:=T4.trans' ht (fun i hi=>.inr (by have hi:i=z+1+1+1:=hi;have:=HZW.out;omega));have bCr:=bC4.keep ht (by omega);obtain⟨k0,k1,k2,k3,k4,k5⟩:=bCr.f6;clear hxs;by_cases hlt:j<L.length
   ·have hlt':(j:Int)<(L.length:Int):=by omega
    have hl9:=HROW.out wr ht;obtain⟨g9,o9,rfl⟩:=hl9.head (by omega);have q0:=Row.one hl9 zap hlt rfl;have HXN:=Lib.hid (show(L.take (j+1)).flatMap SD=xs++SD L[j] by rw[List.take_succ_eq_append_getElem hlt,List.flatMap_append,HXS.out];simp);generalize L[j]=x at *;have hslx:=HSL2.out x;have HSX:=Lib.hid (fun w' (t9:Tf wr w')=>HSI.out w' (Tr.trans t9) x);generalize SD x=ys at *;have bBr:=bB4.keep ht (by omega);have m2:=hR.at2;obtain⟨g0,g1,g2,g3,g4,g5⟩:=bBr.f6;have X0:=wc0 m2;have X1:=wc0 q0;have Y0:=wc0 g0;have Y1:=wc0 g1;have Y2:=wc0 g2;have Y3:=wc0 g3;have Y4:=wc0 g4;have Y5:=wc0 g5;have Z0:=wc0 k0;have Z1:=wc0 k1;have Z2:=wc0 k2;have Z3:=wc0 k3;have Z4:=wc0 k4;have Z5:=wc0 k5
    obtain⟨PV,hPV⟩:∃V:Value→World→Prop,V=fun u w'=>zae za2 6 (fun _=>True) w' u ys:=⟨_,rfl⟩
    have HPV:=Lib.hid hPV;clear hPV hl9 bBr;go_wp2_with fail;refine zai (fun _=>False) [] 9 [(8,.inr PV)] [] ?_ ?_
    ·rw[HPV.out];exact⟨fun _ _ _ hr h=>h.keep hr,trivial⟩
    intro bef _;iterate 8 (refine zbt ?_;(try simp only[zaw]))
    refine zaq (by rfl) (by rfl) (fun wq hr hf=>?_) (fun u9=>?_)
    ·refine zaa (d:=52) rfl (by simp) (fun K hK=>?_);go_step;refine(HSX.out wq ((Tch.drew _ wr).trans hr)).mono ?_;rintro _ wt ⟨u,rfl,hO9⟩;refine hK _ _ ⟨⟨?_,hO9.tch⟩,zaf⟩;rw[HPV.out];exact hO9.row
    simp only[zaw];refine za6 ?_;intro wq hr hpq hap;have hv:=hpq (8,fun w'=>PV u9 w') (List.mem_cons_self ..);simp only at hv;rw[HPV.out]at hv;have tq:=(Tch.drew (fun _=>False) wr).trans hr;have hRq:=hR.keep tq id;have hownQ:=tq.own hown (fun _ _=>id);have htQ:=ht.trans (Exn.touch tq);obtain⟨M2,cm2,rfl,_,_⟩:=hv.form;clear hap hpq hr HPV HSX X0 X1 Y0 Y1 Y2 Y3 Y4 Y5 Z0 Z1 Z2 Z3 Z4 Z5 m2 q0 g0 g1 g2 g3 g4 g5 hR hown ht bCr k0 k1 k2 k3 k4 k5;have hyl:ys.length≤1600:=hslx;have hxl9:xs.length≤1600000:=by omega
    have HLT:=Lib.hid (fun g hg=>hownQ.lt g hg);go_wp2_with (at_builtin;refine Hid.out ?_);refine Lib.hid ?_;refine apd za1 hownQ hv.src (by intro u9 hu9;obtain⟨x9,_,hx9⟩:=List.mem_flatMap.1 hu9;exact zjd x9 u9 hx9) ?_;intro v2 wc ho2 hg2 hl2;have tg:Tch (fun g=>w4.heap.size≤g) wq wc:=Tch.grown hg2 fun k9 hk9=>.inl (HLT.out k9 hk9).1
    have hRc:=hRq.keep tg (by omega);have htc:=htQ.trans' tg (fun i hi=>.inr hi)
    have hob:∀g,v2.ownBlock=some g→w4.heap.size≤g:=fun g hg=>by
     rcases hl2 g hg with h9|h9
     ·exact(HLT.out g h9).1
     ·have:=htQ.size;omega
    obtain⟨O2,co2,rfl,_,_⟩:=zac ho2;clear hRq hownQ htQ hg2 hl2 tg tq hv;go_wp2_with (refine zab rfl _ _ _ rfl (z+1+1+1) 2 (.slice O2 (xs.length+ys.length) co2) (by rfl) (by rfl) rfl (by rfl) hRc (by simp) ?_;refine Hid.out ?_);refine Lib.hid ?_;intro wd hR3 ts3;(try simp only[List.setIfInBounds_toArray,List.set_cons_succ,List.set_cons_zero]at hR3);have hown3:=ts3.own (zbk ho2 hob) (fun g hg he=>by have he:g=z+1+1+1:=he;have:=hob g hg;omega);have t4:=htc.trans ts3;have HLL:=Lib.hid (show xs.length+ys.length=(xs++ys).length by simp);clear hRc ho2 hob htc ts3;go_wp2;go_roundw
    case rel=>exact⟨j+1,xs++ys,O2,co2,by omega,by go_num,HXN.out,by simp;omega,by rw[←HLL.out];exact hR3,by rw[←HLL.out];simpa[List.flatMap_append]using hown3,t4⟩
    case measure=>simp[intOf]<;>omega
   ·obtain rfl:j=L.length:=by omega
    have hlt':¬(L.length:Int)<(L.length:Int):=by omega
    have hxs:=HXS.out;rw[List.take_length]at hxs;have bO9:=bO4.keep ht (by omega);have HRX:=Lib.hid (fun w' (t9:Tch (fun g=>g=z+1+1) wr w')=>(show zae za2 6 (fun _=>True) w' (.slice O xs.length co) xs from Row.keepTo (P':=fun _=>True) (Row.own hown (P:=fun g=>w4.heap.size≤g) (fun g hg=>(hown.lt g hg).1)) t9 (fun g _ hg=>⟨fun e=>by have e:g=z+1+1:=e;have hg:w4.heap.size≤g:=hg;omega,trivial⟩)));rw[hxs]at HRS;clear hown hlt ht bCr hxs k0 k1 k2 k3 k4 k5;obtain⟨f0,f1,f2,f3,f4,f5,f6,f7,f8,f9,f10,f11,f12,f13⟩:=hR.f14;clear hR;go_wp2_with (refine stH (z+1+1) #[.int .i64 0,.int .i64 0,.slice O xs.length co,.slice none 0 0,.int .i64 0,.int .i64 0,.int .i64 0,.int .i64 0,.int .i64 0,.int .i64 0,.bool false,.int .i64 0,.int .i64 0,.bool false] bO9 ?_);intro w9 HF HTF;clear bO9 f0 f1 f2 f3 f4 f5 f6 f7 f8 f9 f10 f11 f12 f13;go_wp2;(try simp only[exS]);refine zbi HF.out ?_;unfold zfi;rw[show zcf b (c1,c2,c3,c4,c5,c6)=({Rcp.none with plus:=xs,minus:=[]},0)from HRS.out];exact⟨_,rfl,⟨_,_,rfl,HRX.out w9 HTF.out,Row.nil _ _ _⟩,Tr.trans' (F':=fun g=>g=z+1+1) HTF.out (fun i hi=>.inr (by have hi:i=z+1+1:=hi;have:=HZW.out;omega))⟩
