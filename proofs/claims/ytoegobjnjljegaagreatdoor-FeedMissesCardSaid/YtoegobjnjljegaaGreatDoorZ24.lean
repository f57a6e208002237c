/-
  The document's: what keys may be.
-/
import Derived.Test.YtoegobjnjljegaaGreatDoorZ20
set_option maxRecDepth 100000
set_option maxHeartbeats 3200000
namespace Go.Gk
end Go.Gk
namespace Go.Proofs.YtoegobjnjljegaaGreatDoor
open Go.RowKit Go.Gk
end Go.Proofs.YtoegobjnjljegaaGreatDoor
namespace Go.Gk
open Go.RowKit
theorem get_le {zs:List Int} (h:zs.Pairwise (· ≤ ·)) {i j:Nat} (hij:i≤j) (hj:j<zs.length):zs.toArray[i]!≤zs.toArray[j]!:=by
 rw[getElem!_pos _ i (by simp;omega),getElem!_pos _ j (by simpa using hj),List.getElem_toArray,List.getElem_toArray];rcases Nat.lt_or_eq_of_le hij with h1|h1
 ·exact(List.pairwise_iff_getElem.1 h) i j (by omega) hj h1
 ·subst h1;exact Int.le_refl _
theorem zhw {zs:List Int} (h:zs.Pairwise (· ≤ ·)):∀m,m≤zs.length→(Lib.compactUpTo zs.toArray m).Pairwise (· < ·)∧∀x∈Lib.compactUpTo zs.toArray m,0<m∧x≤zs.toArray[m-1]!
 |0,_=>by simp[Lib.compactUpTo]
 |m+1,hm=>by
  obtain⟨ih1,ih2⟩:=zhw h m (by omega);rw[Lib.compactUpTo_succ,Nat.add_sub_cancel];have hle:∀x∈Lib.compactUpTo zs.toArray m,x≤zs.toArray[m]!:=fun x hx=>Int.le_trans (ih2 x hx).2 (get_le h (by omega) (by omega))
  by_cases hk:Lib.keeps zs.toArray m=true
  ·rw[if_pos hk];refine⟨List.pairwise_append.2 ⟨ih1,by simp,fun x hx y hy=>?_⟩,fun x hx=>⟨by omega,?_⟩⟩
   ·rw[List.mem_singleton]at hy;subst hy;obtain⟨h0,h1⟩:=ih2 x hx;have h2:=get_le h (i:=m-1) (j:=m) (by omega) (by omega)
    have h3:zs.toArray[m]!≠zs.toArray[m-1]!:=by
     unfold Lib.keeps at hk;have:=of_decide_eq_true hk;rcases this with h4|h4
     ·omega
     ·exact h4
    omega
   ·rcases List.mem_append.1 hx with h1|h1
    ·exact hle x h1
    ·rw[List.mem_singleton]at h1;rw[h1];exact Int.le_refl _
  ·rw[if_neg hk,List.append_nil];exact⟨ih1,fun x hx=>⟨by omega,hle x hx⟩⟩
theorem zxo (xs:List Int):(xs.mergeSort fun x y=>decide (x≤y)).Pairwise (· ≤ ·):=by
 have:=List.pairwise_mergeSort (le:=fun x y:Int=>decide (x≤y)) (fun a b c h1 h2=>by simp at *;omega) (fun a b=>by simp;omega) xs;exact this.imp fun h=>by simpa using h
def zfa (p r:Int) (x:Rw3):Bool:=decide (r≤p)&&x.2.1 !=0
def zr7 (ps:List Pst) (e a p r:Int):List Int:=((zbf ps (e,a,r)).filter (zfa p r)).map (·.2.1)
def zf1 (ps:List Pst) (e a p:Int):List Int:=(zcd ps e a).flatMap (zr7 ps e a p)
theorem zi6 (s:zgm):∀(ps:List Pst) (i:Nat) (x:Rw3),x∈zbq s i ps→∃p∈ps,zbd p=s∧p.2.2.2.1=x.2.1
 |[],_,_,h=>by simp[zbq]at h
 |p::r,i,x,h=>by
  simp only[zbq]at h;by_cases hp:zbd p=s
  ·rw[if_pos hp]at h;rcases List.mem_cons.1 h with h1|h1
   ·exact⟨p,List.mem_cons_self ..,hp,by rw[h1]⟩
   ·obtain⟨y,hy,h2⟩:=zi6 s r (i+1) x h1;exact⟨y,List.mem_cons_of_mem _ hy,h2⟩
  ·rw[if_neg hp]at h;obtain⟨y,hy,h2⟩:=zi6 s r (i+1) x h;exact⟨y,List.mem_cons_of_mem _ hy,h2⟩
theorem znk (s:zgm):∀(ps:List Pst) (i:Nat) (p:Pst),p∈ps→zbd p=s→∃x∈zbq s i ps,x.2.1=p.2.2.2.1
 |[],_,_,h,_=>by simp at h
 |y::r,i,p,h,hs=>by
  simp only[zbq];rcases List.mem_cons.1 h with h1|h1
  ·subst h1;rw[if_pos hs];exact⟨_,List.mem_cons_self ..,rfl⟩
  ·obtain⟨x,hx,h2⟩:=znk s r (i+1) p h1 hs;by_cases hp:zbd y=s
   ·rw[if_pos hp];exact⟨x,List.mem_cons_of_mem _ hx,h2⟩
   ·rw[if_neg hp];exact⟨x,hx,h2⟩
theorem zu8 (ps:List Pst):∀(n:Nat),∀p∈ps.take n,p.1∈zcd (ps.take n) p.2.1 p.2.2.1:=by
 intro n;induction n with
 |zero=>intro p hp;simp at hp
 |succ n ih=>
  intro p hp;by_cases hn:n<ps.length
  ·rw[List.take_succ_eq_append_getElem hn]at hp⊢;rw[zde];rcases List.mem_append.1 hp with h1|h1
   ·exact List.mem_append.2 (.inl (ih p h1))
   ·rw[List.mem_singleton]at h1;subst h1;by_cases hr:zbf (ps.take n) (zbd ps[n])=[]
    ·rw[if_pos ⟨rfl,hr⟩];exact List.mem_append.2 (.inr (List.mem_singleton.2 rfl))
    ·obtain⟨x,hx⟩:=List.exists_mem_of_ne_nil _ hr;obtain⟨y,hy,h2,_⟩:=zi6 _ _ _ x hx;have h3:=ih y hy;unfold zbd at h2;simp only[Prod.mk.injEq]at h2;obtain⟨e1,e2,e3⟩:=h2;rw[e1,e2,e3]at h3;exact List.mem_append.2 (.inl h3)
  ·rw[List.take_of_length_le (by omega)]at hp⊢;have:=ih p (by rw[List.take_of_length_le (by omega)];exact hp);rwa [List.take_of_length_le (by omega)]at this
theorem z3c {ps:List Pst} {e a p q:Int} (h:q∈zf1 ps e a p):q≠0∧∃x∈ps,x.2.1=e∧x.2.2.2.1=q:=by
 unfold zf1 zr7 at h;obtain⟨r,_,h⟩:=List.mem_flatMap.1 h;obtain⟨x,hx,rfl⟩:=List.mem_map.1 h;obtain⟨hx,hf⟩:=List.mem_filter.1 hx;unfold zfa at hf;simp only[Bool.and_eq_true,decide_eq_true_eq,bne_iff_ne]at hf;obtain⟨y,hy,h1,h2⟩:=zi6 _ _ _ x hx;unfold zbd at h1;simp only[Prod.mk.injEq]at h1;exact⟨hf.2,y,hy,h1.1,h2⟩
theorem z3d {b:Bks} (h:zba b=true):∀x∈zay b.entries,zgj x.2 b.ents.length b.accs.length=true:=by
 intro x hx;unfold zay at hx;obtain⟨y,hy,hx⟩:=List.mem_flatMap.1 hx;obtain⟨l,hl,rfl⟩:=List.mem_map.1 hx;unfold zba zd8 at h;simp only[Bool.and_eq_true,List.all_eq_true,List.mem_range]at h;obtain⟨i,hi,rfl⟩:=List.mem_iff_getElem.1 hy;have h1:=h.2.2 i hi;unfold zgq at h1;rw[List.getElem?_eq_getElem hi]at h1;simp only[Bool.and_eq_true]at h1;have h2:=h1.1.1;unfold zh5 at h2;simp only[Bool.and_eq_true,List.all_eq_true]at h2;exact h2.1.2 l hl
end Go.Gk
namespace Go.Proofs.YtoegobjnjljegaaGreatDoor
open Go.RowKit Go.Gk
theorem zeroPers (w:World):(zeroValue 22).run Tryz.prog w=.ok (.slice none 0 0) w:=Tryz.zeroValue22 w
open Go.Sort in
theorem zu9 {w0 w:World} {v:Value} {xs:List Int} (hO:Outs zby 1 3 w0 w v xs) (hn:xs.length≤1000000000):
 Calls Tryz.prog 294 #[v] w fun e w'=>e=.returned (.tuple #[])∧zsx w' v (xs.mergeSort fun x y=>decide (x≤y))∧Tch (fun g=>w0.heap.size≤g) w w':=by
 obtain⟨A,c,rfl,h1,h2⟩:=hO.form;by_cases h0:0<xs.length
 ·obtain⟨g,rfl⟩:=ziq hO.own h0;have hg:=hO.own.lt g rfl;have hH:=zo2 hO.own;refine(Tryz.slices_Sort_int g 0 c xs w hH hg.2 (by omega)).mono ?_;rintro e w' ⟨rfl,n,os,rfl⟩;have hp:(xs.mergeSort fun x y=>decide (x≤y)).Perm xs:=List.mergeSort_perm _ _;refine⟨rfl,.inr ⟨g,c,by rw[hp.length_eq],by rw[hp.length_eq];exact h1,h2,?_,?_⟩,(Tch.putrow _ _ _ _ _ _ _).mono fun i _ e=>?_⟩
  ·show g<(grow _ _).heap.size;simp;omega
  ·refine holds_grow _ _ _ _ _ _ (by simpa using hg.2) ?_;exact holds_putRow _ _ _ _ _ _ (holds_ahead _ _ _ _ _ _ hH) (by simp)
  ·have e:i=g:=e;omega
 ·obtain rfl:xs=[]:=List.eq_nil_of_length_eq_zero (by omega);refine(Tryz.slices_Sort_int_none A c w).mono ?_;rintro e w' ⟨rfl,rfl⟩;exact⟨rfl,.inl ⟨by simp,A,c,rfl,h2,fun ha=>((Src.own hO.own).nil ha).2⟩,Tch.refl _ _⟩
open Go.Sort in
theorem zok {w:World} {v:Value} {ys:List Int} (h:zsx w v ys) (hn:ys.length≤1000000000) {F:Nat→Prop} (hF:∀g,v.ownBlock=some g→F g):
 Calls Tryz.prog 295 #[v] w fun e w'=>∃u,e=.returned u∧zae zby 1 F w' u (Lib.compact ys)∧(Lib.compact ys).length≤ys.length∧Tch F w w':=by
 rcases h with⟨rfl,A,c,rfl,h1,h2⟩|⟨g,c,rfl,h1,h2,hg,hH⟩
 ·refine(Tryz.slices_Compact_int_empty A c w).mono ?_;rintro e w' ⟨rfl,rfl⟩;have e0:Lib.compact ([]:List Int)=[]:=rfl;rw[e0];exact⟨_,rfl,⟨A,c,rfl,Nat.zero_le _,h1,rfl,fun ha=>⟨rfl,h2 ha⟩,fun h=>absurd h (by simp)⟩,Nat.le_refl _,Tch.refl _ _⟩
 ·refine(Tryz.slices_Compact_int g 0 c ys w hH (by omega) h1).mono ?_;rintro e w' ⟨rfl,q,rfl⟩;have hle:=Lib.compact_length_le ys;refine⟨_,rfl,?_,hle,?_⟩
  ·have hcs:((Lib.compact ys++List.replicate (ys.length-(Lib.compact ys).length) 0).toArray).size=ys.toArray.size:=by simp;omega
   refine⟨_,c,rfl,by omega,h2,by simp[zc5 zap],(fun h=>by cases h),fun _=>⟨g,0,rfl,⟨hF g rfl,by simpa using hg⟩,fun j u hu=>?_⟩⟩
   have hj:j<(Lib.compact ys).length:=by
    have:=(List.getElem?_eq_some_iff.1 hu).1;rw[zc5 zap]at this;omega
   have h3:=zfp zap (Lib.compact ys) j hj 0 (by decide);rw[Nat.mul_one,Nat.add_zero]at h3;rw[h3]at hu;have hcell:=cell?_putRow (Value.int .i64) (Sort.ahead w q) g 0 ys.toArray _ (holds_ahead _ _ _ _ _ _ hH) hcs j (by rw[hcs];simp;omega);rw[hcell,getElem!_pos _ j (by rw[hcs];simp;omega),List.getElem_toArray,List.getElem_append_left hj];simpa[zby]using hu
  ·have:=Tch.putrow (Value.int .i64) w q g 0 ((Lib.compact ys++List.replicate (ys.length-(Lib.compact ys).length) 0).toArray) #[]
   exact this.mono fun i _ e=>by
    have e:i=g:=e;subst e;exact hF i rfl
theorem zva {w:World} {B t mr mp:Nat} {ps:List Pst} {n:Int} (h:Tly w B t mr mp ps n) (hn:ps.length≤10000) (e a p q:Int):
 Calls Tryz.prog 157 #[.pointer (some ⟨t,0,none⟩),iV e,iV a,iV p,iV q] w fun x w'=>∃u,x=.returned u∧Outs zby 1 3 w w' u (((zbf ps (e,a,p)).filter fun r=>q==0||r.2.1==q).map (·.1)):=by
 have hT:=Lib.hid (zke h hn (e,a,p) q);have HL:=Lib.hid (Nat.le_trans (List.length_filter_le (fun r:Rw3=>q==0||r.2.1==q) _) (zfx ps (e,a,p)));generalize(zbf ps (e,a,p)).filter (fun r=>q==0||r.2.1==q)=l at *;have hl:=HL.out;clear h HL;unfold zez at hT;go_enter Tryz.func157,Tryz.ntmps157;go_wp2_with fail;refine hT.out.mono ?_;rintro _ w1 ⟨u,rfl,hU⟩;clear hT;obtain⟨U,cu,rfl,hu1,hu2⟩:=hU.form;go_wp2_with fail;go_loopw [11,22] (fun out i wr=>∃(j:Nat) (xs:List Int),j≤l.length∧i=.int .i64 j∧(l.take j).map (·.1)=xs∧Outs zby 1 3 w1 wr out xs) (fun _ i _=>l.length-(intOf i).toNat)
 case atStart=>exact⟨0,[],Nat.zero_le _,rfl,rfl,Outs.start _ _ _ (Tch.refl _ _)⟩
 case round=>
  obtain⟨j,xs,hj,rfl,hx,hO⟩:=hrel;obtain⟨O,co,rfl,ho1,ho2⟩:=hO.form;have hxl:xs.length≤j:=by rw[←hx,List.length_map,List.length_take];omega
  have HX:=Lib.hid hx;clear hx;by_cases hlt:j<l.length
  ·have hlt':(j:Int)<(l.length:Int):=by omega
   have hj0:=znn j;obtain⟨g,o,rfl⟩:=hU.row.head (by omega);obtain⟨q0,q1,q2⟩:=Row.three (hU.row.keep hO.tch) zk2 hlt rfl;have HS:=Lib.hid (show(l.take (j+1)).map (·.1)=xs++[l[j].1] by rw[List.take_succ_eq_append_getElem hlt,List.map_append,HX.out];rfl);generalize l[j]=s at *;obtain⟨x,y,m⟩:=s;simp only at q0 q1 q2 HS;have hO:=hO.keep (Tch.alloc _ wr (.cells #[iV x,iV y,iV m] 290));go_wp2_with ((at_builtin;refine apd zaj (hO.own.alloc _) (Go.Gk.Src.one (news:=[iV (x)]) rfl (fun m9 u9 hu9=>by rw[(Blk.new2 (wr) (.cells #[iV x,iV y,iV m] 290) 3 #[iV (x)]).cell m9];simpa using hu9)) (by simp;rfl) ?_;intro v2 w2 ho2 hg2 hl2;have hO2:=hO.step (x:=x) (Tch.alloc _ _ _) ho2 hg2 hl2;obtain⟨O2,co2,rfl,_,_⟩:=zac ho2));go_roundw
   case rel=>exact⟨j+1,_,by omega,by go_num,HS.out,hO2⟩
   case measure=>simp[intOf];omega
  ·obtain rfl:l.length=j:=by omega
   rw[List.take_length]at HX;have tt:=hU.tch;go_wp2;go_ret;rw[HX.out];exact⟨_,rfl,hO.base tt⟩
theorem zvb {w:World} {B t mr mp:Nat} {ps:List Pst} {n:Int} (h:Tly w B t mr mp ps n) (hn:ps.length≤10000) (e a p:Int):
 Calls Tryz.prog 246 #[.pointer (some ⟨t,0,none⟩),iV e,iV a,iV p] w fun x w'=>∃u zs,x=.returned u∧zae zby 1 (fun g=>w.heap.size≤g) w' u zs∧zs.Pairwise (· < ·)∧(∀q,q∈zs↔q∈zf1 ps e a p)∧zs.length≤1000000000∧Tf w w':=by
 have hM:=zh8 h;obtain⟨R,M,ow,m1,m2,f1,f2,o1,o2⟩:=h.ex;have hown:w.ownsRow B 3 1 ((zar M (e,a,0)).getD ze0) (zcd ps e a).length ((zcd ps e a).flatMap zby):=by simpa using f2.at (e,a,0)
 obtain⟨A,c,hv,hc1,hc2,_⟩:=zac hown;rw[hv]at hown;have hlen:=znb ps e a;have hrow:=Row.own (P:=fun _=>True) hown (fun _ _=>trivial);have HV:=Lib.hid hv;have HF:=Lib.hid f1;have HPT:=Lib.hid (show zf1 ps e a p=(zcd ps e a).flatMap (zr7 ps e a p)from rfl);have HRL:=Lib.hid (fun r=>zfx ps (e,a,r));have HPA:=Lib.hid (fun r=>show zr7 ps e a p r=((zbf ps (e,a,r)).filter (zfa p r)).map (·.2.1)from rfl);have hb:=h.blk;obtain⟨q0,q1⟩:=hb.f2;clear f1 f2 o1 o2 hv h hown;generalize zcd ps e a=pers at *;generalize zf1 ps e a p=PT at *
 obtain⟨RF,hRF⟩:∃RF:Int→List Rw3,(fun r=>zbf ps (e,a,r))=RF:=⟨_,rfl⟩
 obtain⟨PF,hPF⟩:∃PF:Int→List Int,zr7 ps e a p=PF:=⟨_,rfl⟩
 have HF2:=Lib.hid (fun r=>show∃A c,(zar R (e,a,r)).getD ze0=.slice A (RF r).length c∧zae zjk 3 (fun _=>True) w (.slice A (RF r).length c) (RF r)∧(RF r).length≤10000 by
  rw[←hRF];have ho:=HF.out (e,a,r);obtain⟨A,c,hv,_,_,_⟩:=zac ho;rw[hv]at ho
  exact⟨A,c,hv,Row.own (P:=fun _=>True) ho (fun _ _=>trivial),Nat.le_trans (HRL.out r) hn⟩)
 have HPA:=Lib.hid (fun r=>show PF r=((RF r).filter (zfa p r)).map (·.2.1) by rw[←hPF,←hRF];exact HPA.out r);have HPT:=Lib.hid (show PT=pers.flatMap PF by rw[←hPF];exact HPT.out);clear hRF hPF HF HRL hb;go_enter Tryz.func246,Tryz.ntmps246;go_wp2_with fail;refine hM.mono ?_;rintro _ _ ⟨rfl,rfl⟩;clear hM;go_wp2_with (refine zh6 rfl _ _ _ false rfl zjn Tryz.underlying231 (zeroPers w) (k:=(e,a,0)) (by rfl) (by rfl) m2.is ?_;refine Hid.out ?_);refine Lib.hid ?_;(try simp only[Bool.false_eq_true,if_false]);rw[show(zar M (e,a,0)).getD (.slice none 0 0)=.slice A pers.length c from HV.out];clear HV m2;go_wp2_with fail;go_loopw [9,26] (fun out i wr=>∃(j:Nat) (xs:List Int),j≤pers.length∧i=.int .i64 j∧(pers.take j).flatMap PF=xs∧xs.length≤j*10000∧Outs zby 1 3 w wr out xs) (fun _ i _=>pers.length-(intOf i).toNat)
 case atStart=>exact⟨0,[],Nat.zero_le _,rfl,rfl,by simp,Outs.start _ _ _ (Tch.refl _ _)⟩
 case round=>
  obtain⟨j,xs,hj,rfl,hx,hxl,hO⟩:=hrel;obtain⟨O,co,rfl,ho1,ho2⟩:=hO.form;have HX:=Lib.hid hx;clear hx;by_cases hlt:j<pers.length
  ·have hlt':(j:Int)<(pers.length:Int):=by omega
   have hj0:=znn j;obtain⟨g,o,rfl⟩:=hrow.head (by omega);have c0:=Row.one (hrow.keep hO.tch) zap hlt rfl;have HS:=Lib.hid (show(pers.take (j+1)).flatMap PF=xs++PF pers[j] by rw[List.take_succ_eq_append_getElem hlt,List.flatMap_append,HX.out];simp);generalize pers[j]=r at *;obtain⟨A2,k2,hv2,hrow2,hl2⟩:=HF2.out r;have HP:=HPA.out r;have HSP:=Lib.hid (show(pers.take (j+1)).flatMap PF=xs++((RF r).filter (zfa p r)).map (·.2.1) by rw[HS.out,HP]);clear HP HS HPA HPT HF2;have HV2:=Lib.hid hv2;clear hv2;have m3:=m1.keep hO.tch id;have d0:=hO.tch.cell_some q0 id;generalize RF r=l at *;go_wp2_with (refine zh6 rfl _ _ _ false rfl zjn Tryz.underlying230 (zk3 wr) (k:=(e,a,r)) (by rfl) (by rfl) m3.is ?_;refine Hid.out ?_);refine Lib.hid ?_;(try simp only[Bool.false_eq_true,if_false]);rw[show(zar R (e,a,r)).getD (.slice none 0 0)=.slice A2 l.length k2 from HV2.out];clear HV2 m3 d0 c0;go_wp2_with fail;go_loopw [9,40] (fun out i wr=>∃(m:Nat) (ys:List Int),m≤l.length∧i=.int .i64 m∧xs++((l.take m).filter (zfa p r)).map (·.2.1)=ys∧ys.length≤xs.length+m∧Outs zby 1 3 w wr out ys) (fun _ i _=>l.length-(intOf i).toNat)
   case atStart=>exact⟨0,xs,Nat.zero_le _,rfl,by simp,by omega,hO⟩
   case round=>
    clear hO ho1 ho2;obtain⟨m,ys,hm,rfl,hy,hyl,hO⟩:=hrel;obtain⟨O,co,rfl,ho1,ho2⟩:=hO.form;have HY:=Lib.hid hy;clear hy;by_cases hml:m<l.length
    ·have hml':(m:Int)<(l.length:Int):=by omega
     have hm0:=znn m;obtain⟨g2,o2,rfl⟩:=hrow2.head (by omega);obtain⟨p0,p1,p2⟩:=Row.three (hrow2.keep hO.tch) zk2 hml rfl
     have HS:=Lib.hid (show xs++((l.take (m+1)).filter (zfa p r)).map (·.2.1)=ys++(if zfa p r l[m]then[l[m].2.1]else[]) by
      rw[List.take_succ_eq_append_getElem hml,List.filter_append,List.map_append,←List.append_assoc,HY.out];congr 1
      by_cases hh:zfa p r l[m]=true<;>simp[hh])
     have HPR:=Lib.hid (show zfa p r l[m]=(decide (r≤p)&&l[m].2.1 !=0)from rfl);generalize l[m]=s at *;obtain⟨x,y,v⟩:=s;simp only at p0 p1 p2 HS HPR;have hO:=hO.keep (Tch.alloc _ wr (.cells #[iV x,iV y,iV v] 290));by_cases hrp:r≤p
     ·by_cases hy0:y=0
      ·have HS2:=Lib.hid (show xs++((l.take (m+1)).filter (zfa p r)).map (·.2.1)=ys by rw[HS.out,HPR.out];simp[hy0]);clear HS HPR;have HS:=HS2;clear HS2;subst hy0;go_wp2;go_roundw
       case rel=>exact⟨m+1,ys,by omega,by go_num,HS.out,by omega,hO⟩
       case measure=>simp[intOf];omega
      ·have HS:=Lib.hid (show xs++((l.take (m+1)).filter (zfa p r)).map (·.2.1)=ys++[y] by rw[HS.out,HPR.out];simp[hy0,hrp]);have hy1:(y !=0)=true:=by simpa using hy0
       clear HPR;go_wp2_with ((at_builtin;refine apd zaj (hO.own.alloc _) (Go.Gk.Src.one (news:=[iV (y)]) rfl (fun m9 u9 hu9=>by rw[(Blk.new2 (wr) (.cells #[iV x,iV y,iV v] 290) 3 #[iV (y)]).cell m9];simpa using hu9)) (by simp;rfl) ?_;intro v2 w2 ho2 hg2 hl2;have hO2:=hO.step (x:=y) (Tch.alloc _ _ _) ho2 hg2 hl2;obtain⟨O2,co2,rfl,_,_⟩:=zac ho2));go_roundw
       case rel=>exact⟨m+1,_,by omega,by go_num,HS.out,by simp;omega,hO2⟩
       case measure=>simp[intOf];omega
     ·have HS:=Lib.hid (show xs++((l.take (m+1)).filter (zfa p r)).map (·.2.1)=ys by rw[HS.out,HPR.out];simp[hrp]);clear HPR;go_wp2;go_roundw
      case rel=>exact⟨m+1,ys,by omega,by go_num,HS.out,by omega,hO⟩
      case measure=>simp[intOf];omega
    ·obtain rfl:l.length=m:=by omega
     rw[List.take_length]at HY;have HX2:=Lib.hid (HSP.out.trans HY.out);go_wp2;go_roundw
     case rel=>exact⟨j+1,ys,by omega,by go_num,HX2.out,by omega,hO⟩
     case measure=>simp[intOf];omega
  ·obtain rfl:pers.length=j:=by omega
   rw[List.take_length]at HX;have HXP:=Lib.hid (show xs=PT by rw[HPT.out,HX.out]);have hxl9:xs.length≤100000000:=by omega
   have HC:=Lib.hid (zu9 hO (by omega));have hown:=hO.own;have ho:=hO.tch;go_wp2_with fail;refine HC.out.mono ?_;rintro _ w5 ⟨rfl,hH,t5⟩;have hp:(xs.mergeSort fun x y=>decide (x≤y)).Perm xs:=List.mergeSort_perm _ _;have HC2:=Lib.hid (zok hH (by rw[hp.length_eq];omega) (F:=fun g=>w.heap.size≤g) (fun g hg=>(hown.lt g hg).1));have HN:=Lib.hid (show(Lib.compact (xs.mergeSort fun x y=>decide (x≤y))).Pairwise (· < ·)from(zhw (zxo xs) _ (Nat.le_refl _)).1);have HMM:=Lib.hid (fun q=>(zlf (xs.mergeSort fun x y=>decide (x≤y)) q).trans hp.mem_iff);have HLE:=Lib.hid (show(xs.mergeSort fun x y=>decide (x≤y)).length≤100000000 by rw[hp.length_eq];exact hxl9);clear hp hH HC;generalize(xs.mergeSort fun x y=>decide (x≤y))=zs at *;go_wp2_with fail;refine HC2.out.mono ?_;rintro _ w6 ⟨u,rfl,hu,hle,t6⟩;have tA:Tf w w6:=ho.trans' (t5.trans t6) (fun i hi=>.inr hi);have h9:=HLE.out;obtain⟨U,cu,rfl,_,_⟩:=hu.form;go_wp2;go_ret;exact⟨_,_,rfl,hu,HN.out,fun q=>by rw[HMM.out,HXP.out],by omega,tA⟩
section
variable {w:World} {bv bi B t mr mp:Nat} {e a s r l n lv:Value} {fs:List Value} {b:Bks} {us:List (Ent×Value)}
theorem zxq (h:Vw w bv bi B t mr mp e a s r l n lv fs b us) (hn:(zay b.entries).length≤10000) (xe xa xp xq:Int):
 Calls Tryz.prog 67 #[.pointer (some ⟨bv,0,none⟩),iV xe,iV xa,iV xp,iV xq] w fun x w'=>∃u,x=.returned u∧Outs zby 1 3 w w' u (((zbf (zay b.entries) (xe,xa,xp)).filter fun r=>xq==0||r.2.1==xq).map (·.1)):=by
 have HC:=Lib.hid (zva h.tally hn xe xa xp xq);generalize((zbf (zay b.entries) (xe,xa,xp)).filter fun r=>xq==0||r.2.1==xq).map (·.1)=L at *;have hM:=zb5 h;have v0:=h.view.at0;have v7:=h.seen.at0;go_enter Tryz.func67,Tryz.ntmps67;go_wp2_with fail;refine hM.mono ?_;rintro _ _ ⟨rfl,rfl⟩;clear hM;go_wp2_with fail;refine HC.out.mono ?_;rintro _ w1 ⟨u,rfl,hO⟩;obtain⟨A,c,rfl,_,_⟩:=hO.form;go_wp2;go_ret;exact⟨_,rfl,hO⟩
theorem zxr (h:Vw w bv bi B t mr mp e a s r l n lv fs b us) (hn:(zay b.entries).length≤10000) (xe xa xp:Int):
 Calls Tryz.prog 180 #[.pointer (some ⟨bv,0,none⟩),iV xe,iV xa,iV xp] w fun x w'=>∃u zs,x=.returned u∧zae zby 1 (fun g=>w.heap.size≤g) w' u zs∧zs.Pairwise (· < ·)∧(∀q,q∈zs↔q∈zf1 (zay b.entries) xe xa xp)∧zs.length≤1000000000∧Tf w w':=by
 have HC:=Lib.hid (zvb h.tally hn xe xa xp);generalize zf1 (zay b.entries) xe xa xp=L at *;have hM:=zb5 h;have v0:=h.view.at0;have v7:=h.seen.at0;go_enter Tryz.func180,Tryz.ntmps180;go_wp2_with fail;refine hM.mono ?_;rintro _ _ ⟨rfl,rfl⟩;clear hM;go_wp2_with fail;refine HC.out.mono ?_;rintro _ w1 ⟨u,zs,rfl,h1,h2,h3,h4,h5⟩;obtain⟨A,c,rfl,_,_⟩:=h1.form;go_wp2;go_ret;exact⟨_,zs,rfl,h1,h2,h3,h4,h5⟩
end
end Go.Proofs.YtoegobjnjljegaaGreatDoor
namespace Go.Gk
open Go.RowKit
end Go.Gk
namespace Go.Proofs.YtoegobjnjljegaaGreatDoor
open Go.RowKit Go.Gk
end Go.Proofs.YtoegobjnjljegaaGreatDoor
namespace Go.Gk
open Go.RowKit
theorem zvc {b:Bks} (h:BksFew b):(zag b.accs).length≤1000:=by
 have h1:=h.accs;unfold zag;refine Nat.le_trans (List.length_filter_le _ _) ?_;unfold zal;simp;omega
theorem zxs {b:Bks} (h:BksFew b):(zay b.entries).length≤10000:=by
 have h1:=h.entries;have h2:=zd6 b.entries 60 h.lines;have h3:b.entries.length*60≤30*60:=Nat.mul_le_mul_right _ h1;omega
theorem ztj {b:Bks} (h:Bks64 b):∀p∈zay b.entries,I64 p.2.2.2.2:=by
 intro p hp;unfold zay at hp;obtain⟨x,hx,hp⟩:=List.mem_flatMap.1 hp;obtain⟨l,hl,rfl⟩:=List.mem_map.1 hp;exact((h.entries x hx).2.2 l hl).2.2.2
