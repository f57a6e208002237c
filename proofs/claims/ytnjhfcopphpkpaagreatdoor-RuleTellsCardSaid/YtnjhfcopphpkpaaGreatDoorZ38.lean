/-
  The document's: the lines of the journal; totals.
-/
import Derived.Test.YtnjhfcopphpkpaaGreatDoorZ24
set_option maxRecDepth 100000
set_option maxHeartbeats 12800000
namespace Go.Gk
open Go.RowKit
theorem zor (x:P7):∀u∈zq2 x,u.oneCell'=true:=by
 intro u hu;unfold zq2 at hu;simp only[List.mem_cons,List.not_mem_nil,or_false]at hu;rcases hu with rfl|rfl|rfl|rfl|rfl|rfl|rfl<;>rfl
section
variable {B:Nat→Prop} {w:World} {α:Type} {f:α→List Value} {g o c i:Nat} {l:List α} {a b d e p q r:Value}
theorem Row.seven (h:Row B w (.slice (some ⟨g,o,none⟩) l.length c) l.length 7 (l.flatMap f)) (hf:∀a,(f a).length=7) (hi:i<l.length) (he:f l[i]=[a,b,d,e,p,q,r]):w.cell? ⟨g,o+i*7,none⟩=some a∧w.cell? ⟨g,o+i*7+1,none⟩=some b∧w.cell? ⟨g,o+i*7+2,none⟩=some d∧w.cell? ⟨g,o+i*7+3,none⟩=some e∧w.cell? ⟨g,o+i*7+4,none⟩=some p∧w.cell? ⟨g,o+i*7+5,none⟩=some q∧w.cell? ⟨g,o+i*7+6,none⟩=some r:=
 ⟨by have:=Row.elem hf h hi (j:=0) (by decide) (u:=a) (by rw[he];rfl);simpa using this,Row.elem hf h hi (j:=1) (by decide) (by rw[he];rfl),Row.elem hf h hi (j:=2) (by decide) (by rw[he];rfl),Row.elem hf h hi (j:=3) (by decide) (by rw[he];rfl),Row.elem hf h hi (j:=4) (by decide) (by rw[he];rfl),Row.elem hf h hi (j:=5) (by decide) (by rw[he];rfl),Row.elem hf h hi (j:=6) (by decide) (by rw[he];rfl)⟩
end
def zfk (e a p q:Int) (x:P7):Bool:=decide (x.2.2.2.1=e)&&decide (x.2.2.2.2.1=a)&&decide (x.2.2.1=p)&&(q==0||x.2.2.2.2.2.1==q)
theorem zst (l:List Ent) (e a p q:Int):((zbn l).filter (zfk e a p q)).map (·.2.2.2.2.2.2)=zcl (zay l) (e,a,p) q:=by
 unfold zcl;rw[←zbr,List.filter_map,List.map_map]
 have:zfk e a p q=((fun x:Pst=>decide (zbd x=(e,a,p))&&(q==0||x.2.2.2.1==q))∘fun x:P7=>x.2.2):=by
  funext x;obtain⟨i,n,pp,ee,aa,qq,m⟩:=x;unfold zfk zbd;simp only[Function.comp];congr 1;rw[Bool.eq_iff_iff];simp only[Bool.and_eq_true,decide_eq_true_eq,Prod.mk.injEq];constructor
  ·rintro⟨⟨h1,h2⟩,h3⟩;exact⟨h1,h2,h3⟩
  ·rintro⟨h1,h2,h3⟩;exact⟨⟨h1,h2⟩,h3⟩
 rw[this];rfl
theorem znu {us:List (Ent×Value)} (hul:us.length≤1000) (hll:∀p∈us,p.1.lines.length≤1000):(zbn (us.map (·.1))).length≤1000000:=by
 have h1:(zbn (us.map (·.1))).length=(zay (us.map (·.1))).length:=by rw[←zbr,List.length_map]
 have h2:=zd6 (us.map (·.1)) 1000 (fun x hx=>by obtain⟨p,hp,rfl⟩:=List.mem_map.1 hx;exact hll p hp);rw[List.length_map]at h2;have h3:us.length*1000≤1000*1000:=Nat.mul_le_mul_right _ hul;omega
end Go.Gk
namespace Go.Proofs.YtnjhfcopphpkpaaGreatDoor
open Go.RowKit Go.Gk
theorem zmg:RowTy Tryz.prog 209 211 (.agg #[.int .i64 0,.int .i64 0,.int .i64 0,.int .i64 0,.int .i64 0,.int .i64 0,.int .i64 0]) 7 56:=⟨Tryz.underlying209,by kernel_rfl,rfl,by decide⟩
theorem zkq {w:World} {v:Value} {us:List (Ent×Value)} (hu:EntsIs w v us) (hul:us.length≤1000) (hll:∀p∈us,p.1.lines.length≤1000):
 Calls Tryz.prog 201 #[v] w fun e w'=>∃u,e=.returned u∧Outs zq2 7 211 w w' u (zbn (us.map (·.1))):=by
 obtain⟨A,c,rfl,hc1,hc2⟩:=hu.row.form
 have hc00:come us 0 0=[]:=by
  unfold come
  cases(us.map (·.1))[0]?<;>simp[zeh,zci,zsw]
 have hmax:(zbn (us.map (·.1))).length≤1000000:=by
  have h1:(zbn (us.map (·.1))).length=(zay (us.map (·.1))).length:=by rw[←zbr,List.length_map]
  have h2:=zd6 (us.map (·.1)) 1000 (fun x hx=>by obtain⟨p,hp,rfl⟩:=List.mem_map.1 hx;exact hll p hp);rw[List.length_map]at h2;have h3:us.length*1000≤1000*1000:=Nat.mul_le_mul_right _ hul;omega
 go_enter Tryz.func201,Tryz.ntmps201;go_wp2_with fail;go_loopw [3,4] (fun out i wr=>∃(j:Nat) (xs:List P7),j≤us.length∧i=.int .i64 j∧come us j 0=xs∧Outs zq2 7 211 w wr out xs) (fun _ i _=>us.length-(intOf i).toNat)
 case atStart=>exact⟨0,[],Nat.zero_le _,rfl,hc00,Outs.start _ _ _ (Tch.refl _ _)⟩
 case round=>
  obtain⟨j,xs,hj,rfl,hx,hO⟩:=hrel;obtain⟨O,co,rfl,ho1,ho2⟩:=hO.form;have HX:=Lib.hid hx;clear hx;by_cases hlt:j<us.length
  ·have hlt':(j:Int)<(us.length:Int):=by omega
   have hj0:=znn j;have HLT:=Lib.hid (fun k=>zw8 (us:=us) (k:=k) hlt);have HNX:=Lib.hid (fun k=>zpu (us:=us) (k:=k) hlt);have HOV:=Lib.hid (zpv hlt);obtain⟨g,o,rfl⟩:=hu.row.head (by omega);have HQ:=Lib.hid (fun wq (t:Tf w wq)=>Row.three (hu.row.keep t) zc6 hlt rfl);have hL:=hu.lines us[j] (List.getElem_mem _);have hlen:=hll us[j] (List.getElem_mem _);generalize us[j]=x at *;obtain⟨⟨yp,yr,yl⟩,yv⟩:=x;simp only at HLT HNX HOV HQ hL hlen;obtain⟨A',c',rfl,_,_⟩:=hL.form;go_wp2_with fail;go_loopw [3,5] (fun out k wr=>∃(m:Nat) (xs:List P7),m≤yl.length∧k=.int .i64 m∧come us j m=xs∧Outs zq2 7 211 w wr out xs) (fun _ k _=>yl.length-(intOf k).toNat)
   case atStart=>exact⟨0,xs,Nat.zero_le _,rfl,HX.out,hO⟩
   case round=>
    clear hO HX ho1 ho2;obtain⟨m,xs,hm,rfl,hx,hO⟩:=hrel;obtain⟨O,co,rfl,ho1,ho2⟩:=hO.form;have HX:=Lib.hid hx;clear hx;obtain⟨q0,q1,q2⟩:=HQ.out wr hO.tch;by_cases hml:m<yl.length
    ·have hml':(m:Int)<(yl.length:Int):=by omega
     have hm0:=znn m;obtain⟨g2,o2,rfl⟩:=hL.head (by omega);obtain⟨p0,p1,p2,p3⟩:=Row.four (hL.keep hO.tch) zbg hml rfl;have hcl:xs.length<1000000:=by have:=HLT.out m hml;rw[HX.out]at this;omega
     have HS:=Lib.hid (show come us j (m+1)=xs++[((xs.length:Int)+1,(j:Int)+1,yp,yl[m])] by rw[HNX.out m hml,HX.out]);generalize yl[m]=x at *;obtain⟨x1,x2,x3,x4⟩:=x;simp only at p0 p1 p2 p3;have y0:=wc0 q0;have y2:=wc0 q2;have z0:=wc0 p0;have z1:=wc0 p1;have z2:=wc0 p2;have z3:=wc0 p3;go_wp2_with fail;refine zai (fun _=>False) [0] 19 [] [] ?_ ?_
     ·exact trivial
     intro bef _;iterate 19 (refine zbt ?_;(try simp only[zaw]))
     refine za6 ?_;intro w1 hr hp1 hap;have t1:=(Tch.drew _ wr).trans hr;clear hap hp1 hr y0 y2 z0 z1 z2 z3 p0 p1 p2 p3 q0 q1 q2;have hO:=hO.keep t1;have hO:=hO.keep (Tch.alloc _ w1 (.cells #[.int .i64 ((xs.length:Int)+1),.int .i64 ((j:Int)+1),.int .i64 yp,.int .i64 x1,.int .i64 x2,.int .i64 x3,.int .i64 x4] 211));go_wp2_with (at_builtin;refine apd zmg hO.own (Go.Gk.Src.one (news:=zq2 ((xs.length:Int)+1,(j:Int)+1,yp,x1,x2,x3,x4)) rfl (fun m9 u9 hu9=>by rw[(Blk.new w1 211 #[.int .i64 ((xs.length:Int)+1),.int .i64 ((j:Int)+1),.int .i64 yp,.int .i64 x1,.int .i64 x2,.int .i64 x3,.int .i64 x4]).cell m9];simpa[zq2]using hu9)) (zor _) ?_;intro v2 w2 ho2 hg2 hl2;have hO2:=hO.step (x:=((xs.length:Int)+1,(j:Int)+1,yp,x1,x2,x3,x4)) (Tch.refl _ _) ho2 hg2 hl2;obtain⟨O2,co2,rfl,_,_⟩:=zac ho2);go_roundw
     case rel=>exact⟨m+1,_,by omega,by go_num,HS.out,hO2⟩
     case measure=>simp[intOf];omega
    ·obtain rfl:m=yl.length:=by omega
     have HX:=Lib.hid (HOV.out.symm.trans HX.out);go_wp2;go_roundw
     case rel=>exact⟨j+1,xs,by omega,by go_num,HX.out,hO⟩
     case measure=>simp[intOf];omega
  ·obtain rfl:us.length=j:=by omega
   rw[ztc]at HX;have e:=HX.out;subst e;go_wp2;go_ret;exact⟨_,rfl,hO⟩
theorem zkr {w:World} {v:Value} {us:List (Ent×Value)} (hu:EntsIs w v us) (hul:us.length≤1000) (hll:∀p∈us,p.1.lines.length≤1000) (e a p q:Int):
 Calls Tryz.prog 122 #[v,.int .i64 e,.int .i64 a,.int .i64 p,.int .i64 q] w fun x w'=>∃u,x=.returned u∧Outs zq2 7 211 w w' u ((zbn (us.map (·.1))).filter (zfk e a p q)):=by
 obtain⟨A,c,rfl,hc1,hc2⟩:=hu.row.form;have HL:=Lib.hid (zkq hu hul hll);have hn:=znu hul hll;generalize zbn (us.map (·.1))=l at *
 obtain⟨F,hF⟩:∃F,zfk e a p q=F:=⟨_,rfl⟩
 rw[hF];have HF:=Lib.hid (show∀x1 x2 x3 x4 x5 x6 x7,F (x1,x2,x3,x4,x5,x6,x7)=(decide (x4=e)&&decide (x5=a)&&decide (x3=p)&&(q==0||x6==q))from fun x1 x2 x3 x4 x5 x6 x7=>by rw[←hF];rfl);clear hF hu hll hul;go_enter Tryz.func122,Tryz.ntmps122;go_wp2_with fail;refine HL.out.mono ?_;rintro _ w1 ⟨u,rfl,hU⟩;clear HL;obtain⟨U,cu,rfl,hu1,hu2⟩:=hU.form;have hrow:=hU.row;have tt:=hU.tch;clear hU;go_wp2_with fail;go_loopw [12,13] (fun out i wr=>∃(j:Nat) (xs:List P7),j≤l.length∧i=.int .i64 j∧(l.take j).filter F=xs∧Outs zq2 7 211 w1 wr out xs) (fun _ i _=>l.length-(intOf i).toNat)
 case atStart=>exact⟨0,[],Nat.zero_le _,rfl,rfl,Outs.start _ _ _ (Tch.refl _ _)⟩
 case round=>
  obtain⟨j,xs,hj,rfl,hx,hO⟩:=hrel;obtain⟨O,co,rfl,ho1,ho2⟩:=hO.form;have hxl:xs.length≤j:=by rw[←hx];exact Nat.le_trans (List.length_filter_le _ _) (by rw[List.length_take];omega)
  have HX:=Lib.hid hx;clear hx;by_cases hlt:j<l.length
  ·have hlt':(j:Int)<(l.length:Int):=by omega
   have hj0:=znn j;obtain⟨g,o,rfl⟩:=hrow.head (by omega);obtain⟨q0,q1,q2,q3,q4,q5,q6⟩:=Row.seven (hrow.keep hO.tch) zhf hlt rfl;have HR:=Lib.hid (fun ob=>Row.seven (hrow.keep (hO.tch.trans (tal wr ob))) zhf hlt rfl)
   have HS:=Lib.hid (show(l.take (j+1)).filter F=xs++(if F l[j]then[l[j]]else[]) by
    rw[List.take_succ_eq_append_getElem hlt,List.filter_append,HX.out];congr 1
    by_cases hh:F l[j]=true<;>simp[hh])
   generalize l[j]=s at *;obtain⟨x1,x2,x3,x4,x5,x6,x7⟩:=s;simp only at q0 q1 q2 q3 q4 q5 q6 HS HR;obtain⟨r0,r1,r2,r3,r4,r5,r6⟩:=HR.out (.cells #[.int .i64 x4,.int .i64 x5,.int .i64 x6,.int .i64 x7] 150);have hO:=hO.keep (Tch.alloc _ wr (.cells #[.int .i64 x4,.int .i64 x5,.int .i64 x6,.int .i64 x7] 150));by_cases h4:x4=e
   rotate_left
   ·have HS:=Lib.hid (show(l.take (j+1)).filter F=xs by rw[HS.out,HF.out];simp[h4]);clear HF;go_wp2;go_roundw
    case rel=>exact⟨j+1,xs,by omega,by go_num,HS.out,hO⟩
    case measure=>simp[intOf];omega
   subst h4;by_cases h5:x5=a
   rotate_left
   ·have HS:=Lib.hid (show(l.take (j+1)).filter F=xs by rw[HS.out,HF.out];simp[h5]);clear HF;go_wp2;go_roundw
    case rel=>exact⟨j+1,xs,by omega,by go_num,HS.out,hO⟩
    case measure=>simp[intOf];omega
   subst h5;by_cases h3:x3=p
   rotate_left
   ·have HS:=Lib.hid (show(l.take (j+1)).filter F=xs by rw[HS.out,HF.out];simp[h3]);clear HF;go_wp2;go_roundw
    case rel=>exact⟨j+1,xs,by omega,by go_num,HS.out,hO⟩
    case measure=>simp[intOf];omega
   subst h3;by_cases hq:q=0
   ·subst hq;have HS:=Lib.hid (show(l.take (j+1)).filter F=xs++[(x1,x2,x3,x4,x5,x6,x7)] by rw[HS.out,HF.out];simp);clear HF;go_wp2_with (at_builtin;refine apd zmg (hO.own.alloc _) (Go.Gk.Src.one (news:=zq2 (x1,x2,x3,x4,x5,x6,x7)) rfl (fun m9 u9 hu9=>by rw[(Blk.new2 wr (.cells #[.int .i64 x4,.int .i64 x5,.int .i64 x6,.int .i64 x7] 150) 211 #[.int .i64 x1,.int .i64 x2,.int .i64 x3,.int .i64 x4,.int .i64 x5,.int .i64 x6,.int .i64 x7]).cell m9];simpa[zq2]using hu9)) (zor _) ?_;intro v2 w2 ho2 hg2 hl2;have hO2:=hO.step (x:=(x1,x2,x3,x4,x5,x6,x7)) (Tch.alloc _ _ _) ho2 hg2 hl2;obtain⟨O2,co2,rfl,_,_⟩:=zac ho2);go_roundw
    case rel=>exact⟨j+1,_,by omega,by go_num,HS.out,hO2⟩
    case measure=>simp[intOf];omega
   have b1:(q==0)=false:=by simpa using hq
   by_cases h6:x6=q
   rotate_left
   ·have HS:=Lib.hid (show(l.take (j+1)).filter F=xs by rw[HS.out,HF.out];simp[hq,h6]);have b2:(x6==q)=false:=by simpa using h6
    clear HF;go_wp2;go_roundw
    case rel=>exact⟨j+1,xs,by omega,by go_num,HS.out,hO⟩
    case measure=>simp[intOf];omega
   subst h6;have HS:=Lib.hid (show(l.take (j+1)).filter F=xs++[(x1,x2,x3,x4,x5,x6,x7)] by rw[HS.out,HF.out];simp);clear HF;go_wp2_with (at_builtin;refine apd zmg (hO.own.alloc _) (Go.Gk.Src.one (news:=zq2 (x1,x2,x3,x4,x5,x6,x7)) rfl (fun m9 u9 hu9=>by rw[(Blk.new2 wr (.cells #[.int .i64 x4,.int .i64 x5,.int .i64 x6,.int .i64 x7] 150) 211 #[.int .i64 x1,.int .i64 x2,.int .i64 x3,.int .i64 x4,.int .i64 x5,.int .i64 x6,.int .i64 x7]).cell m9];simpa[zq2]using hu9)) (zor _) ?_;intro v2 w2 ho2 hg2 hl2;have hO2:=hO.step (x:=(x1,x2,x3,x4,x5,x6,x7)) (Tch.alloc _ _ _) ho2 hg2 hl2;obtain⟨O2,co2,rfl,_,_⟩:=zac ho2);go_roundw
   case rel=>exact⟨j+1,_,by omega,by go_num,HS.out,hO2⟩
   case measure=>simp[intOf];omega
  ·obtain rfl:l.length=j:=by omega
   rw[List.take_length]at HX;have e:=HX.out;subst e;go_wp2;go_ret;exact⟨_,rfl,hO.base tt⟩
theorem zqz {w:World} {v:Value} {us:List (Ent×Value)} (hu:EntsIs w v us) (hul:us.length≤60) (hll:∀p∈us,p.1.lines.length≤100) (h64:∀p∈zay (us.map (·.1)),I64 p.2.2.2.2) (e a p q:Int):
 Calls Tryz.prog 109 #[v,.int .i64 e,.int .i64 a,.int .i64 p,.int .i64 q] w fun x w'=>x=.returned (.tuple #[.int .i64 (zda (zcl (zay (us.map (·.1))) (e,a,p) q).sum).1,.int .i64 (zda (zcl (zay (us.map (·.1))) (e,a,p) q).sum).2])∧Tf w w':=by
 obtain⟨A,c,rfl,hc1,hc2⟩:=hu.row.form;have HT:=Lib.hid (zkr hu (by omega) (fun p hp=>by have:=hll p hp;omega) e a p q);have HA:=Lib.hid (zst (us.map (·.1)) e a p q)
 have HL:=Lib.hid (show((zbn (us.map (·.1))).filter (zfk e a p q)).length≤10000 by
  refine Nat.le_trans (List.length_filter_le _ _) ?_;have h1:(zbn (us.map (·.1))).length=(zay (us.map (·.1))).length:=by rw[←zbr,List.length_map]
  have h2:=zd6 (us.map (·.1)) 100 (fun x hx=>by obtain⟨p,hp,rfl⟩:=List.mem_map.1 hx;exact hll p hp);rw[List.length_map]at h2;have h3:us.length*100≤60*100:=Nat.mul_le_mul_right _ hul
  omega)
 have HI:=Lib.hid (show zwa (zcl (zay (us.map (·.1))) (e,a,p) q)from fun x hx=>by
  unfold zcl at hx;obtain⟨y,hy,rfl⟩:=List.mem_map.1 hx
  exact h64 y (List.mem_filter.1 hy).1)
 generalize(zbn (us.map (·.1))).filter (zfk e a p q)=l at *;have hl:=HL.out;rw[←zta,←HA.out];obtain⟨n1,n2,eq⟩:=zdu (l.map (·.2.2.2.2.2.2)).sum;rw[eq];have HEQ:=Lib.hid eq;clear eq hu h64 hll hul;go_enter Tryz.func109,Tryz.ntmps109;go_wp2_with fail;refine HT.out.mono ?_;rintro _ w1 ⟨u,rfl,hU⟩;clear HT;obtain⟨U,cu,rfl,hu1,hu2⟩:=hU.form;have hrow:=hU.row;have tt:=hU.tch;clear hU;go_wp2_with fail;go_loopw [13,14] (fun out i wr=>∃(j:Nat) (xs:List Int),j≤l.length∧i=.int .i64 j∧(l.take j).map (·.2.2.2.2.2.2)=xs∧Outs zby 1 3 w1 wr out xs) (fun _ i _=>l.length-(intOf i).toNat)
 case atStart=>exact⟨0,[],Nat.zero_le _,rfl,rfl,Outs.start _ _ _ (Tch.refl _ _)⟩
 case round=>
  obtain⟨j,xs,hj,rfl,hx,hO⟩:=hrel;obtain⟨O,co,rfl,ho1,ho2⟩:=hO.form;have hxl:xs.length≤j:=by rw[←hx,List.length_map,List.length_take];omega
  have HX:=Lib.hid hx;clear hx;by_cases hlt:j<l.length
  ·have hlt':(j:Int)<(l.length:Int):=by omega
   have hj0:=znn j;obtain⟨g,o,rfl⟩:=hrow.head (by omega);obtain⟨q0,q1,q2,q3,q4,q5,q6⟩:=Row.seven (hrow.keep hO.tch) zhf hlt rfl
   have HS:=Lib.hid (show(l.take (j+1)).map (·.2.2.2.2.2.2)=xs++[l[j].2.2.2.2.2.2] by
    rw[List.take_succ_eq_append_getElem hlt,List.map_append,HX.out];rfl)
   generalize l[j]=s at *;obtain⟨x1,x2,x3,x4,x5,x6,x7⟩:=s;simp only at q0 q1 q2 q3 q4 q5 q6 HS;clear q0 q1 q2 q3 q4 q5;go_wp2_with ((at_builtin;refine apd zaj (hO.own.alloc _) (Go.Gk.Src.one (news:=[.int .i64 (x7)]) rfl (fun m9 u9 hu9=>by rw[(Blk.new (wr) 3 #[.int .i64 (x7)]).cell m9];simpa using hu9)) (by simp;rfl) ?_;intro v2 w2 ho2 hg2 hl2;have hO2:=hO.step (x:=x7) (Tch.alloc _ _ _) ho2 hg2 hl2;obtain⟨O2,co2,rfl,_,_⟩:=zac ho2));go_roundw
   case rel=>exact⟨j+1,_,by omega,by go_num,HS.out,hO2⟩
   case measure=>simp[intOf];omega
  ·obtain rfl:l.length=j:=by omega
   rw[List.take_length]at HX;have hxe:l.map (·.2.2.2.2.2.2)=xs:=HX.out;rw[HA.out]at hxe;have HN:=Lib.hid (net_any hO.row (show zae zby 1 (fun _=>True) wr (.slice none 0 0) ([]:List Int)from Row.nil (fun _=>True) wr 1) (by rw[←hxe];exact HI.out) (fun x hx=>absurd hx (by simp)) (by omega) (by simp));have HXE:=Lib.hid hxe;clear hxe;go_wp2_with fail;refine HN.out.mono ?_;rintro _ w3 ⟨hr,t3⟩
   have hr':(zex (xs.sum-([]:List Int).sum))=.tuple #[.int .i64 n1,.int .i64 n2]:=by
    rw[←HEQ.out,HA.out,HXE.out];simp
   rw[hr']at hr;subst hr;have t9:=(tt.trans hO.tch).trans t3;clear hr' HN hO;go_wp2;go_ret2
   exact⟨rfl,t9⟩
open Go.RowKit Go.Gk
theorem zsu (n e:Int) (w:World):
 Calls Tryz.prog 62 #[.int .i64 n,.int .i64 e] w fun x w'=>x=.returned (.agg #[.int .i64 (if e=0 then n else 0),.int .i64 e])∧Tf w w':=by
 have tw:=tal w (.cells #[.int .i64 0,.int .i64 0] 39);by_cases h:e=0
 ·subst h;rw[if_pos rfl];go_enter Tryz.func62,Tryz.ntmps62;go_wp2;refine zfe (Blk.new w 39 _) ?_;exact⟨rfl,Tch.alloc _ _ _⟩
 ·have h2:(e !=0)=true:=by simpa using h
  rw[if_neg h];go_enter Tryz.func62,Tryz.ntmps62;go_wp2;refine zfe (Blk.new w 39 _) ?_;exact⟨rfl,Tch.alloc _ _ _⟩
section
variable {w:World} {e a s r l n:Value} {b:Bks} {us:List (Ent×Value)}
theorem zvn (h:BksAt w e a s r l n b us) (hn:b.accs.length≤100000) (hul:us.length≤60) (hll:∀p∈us,p.1.lines.length≤100) (h64:∀p∈zay b.entries,I64 p.2.2.2.2) (c1 c2 c3 c4 c5 c6:Int):
 Calls Tryz.prog 42 #[.agg #[e,a,s,r,l,n],.agg #[.int .i64 c1,.int .i64 c2,.int .i64 c3,.int .i64 c4,.int .i64 c5,.int .i64 c6]] w (zmm b (c1,c2,c3,c4,c5,c6) w):=by
 have ta:=tal w (.cells #[e,a,s,r,l,n] 29);have tb:=tal (w.alloc (.cells #[e,a,s,r,l,n] 29)) (.cells #[.int .i64 c1,.int .i64 c2,.int .i64 c3,.int .i64 c4,.int .i64 c5,.int .i64 c6] 31);have tc:=tal ((w.alloc (.cells #[e,a,s,r,l,n] 29)).alloc (.cells #[.int .i64 c1,.int .i64 c2,.int .i64 c3,.int .i64 c4,.int .i64 c5,.int .i64 c6] 31)) (.cells #[.int .i64 0,.int .i64 0,.slice none 0 0,.slice none 0 0,.int .i64 0,.int .i64 0,.int .i64 0,.int .i64 0,.int .i64 0,.int .i64 0,.bool false,.int .i64 0,.int .i64 0,.bool false] 50);have td:=tal (((w.alloc (.cells #[e,a,s,r,l,n] 29)).alloc (.cells #[.int .i64 c1,.int .i64 c2,.int .i64 c3,.int .i64 c4,.int .i64 c5,.int .i64 c6] 31)).alloc (.cells #[.int .i64 0,.int .i64 0,.slice none 0 0,.slice none 0 0,.int .i64 0,.int .i64 0,.int .i64 0,.int .i64 0,.int .i64 0,.int .i64 0,.bool false,.int .i64 0,.int .i64 0,.bool false] 50)) (.cells #[.int .i64 0,.int .i64 0,.slice none 0 0,.slice none 0 0,.int .i64 0,.int .i64 0,.int .i64 0,.int .i64 0,.int .i64 0,.int .i64 0,.bool false,.int .i64 0,.int .i64 0,.bool false] 50);have tw:=((ta.trans tb).trans tc).trans td;have hbB:=(((Blk.new w 29 #[e,a,s,r,l,n]).keep tb id).keep tc id).keep td id;have hbC:=((Blk.new2 w (.cells #[e,a,s,r,l,n] 29) 31 #[.int .i64 c1,.int .i64 c2,.int .i64 c3,.int .i64 c4,.int .i64 c5,.int .i64 c6]).keep tc id).keep td id;have hbR:=(Blk.new ((w.alloc (.cells #[e,a,s,r,l,n] 29)).alloc (.cells #[.int .i64 c1,.int .i64 c2,.int .i64 c3,.int .i64 c4,.int .i64 c5,.int .i64 c6] 31)) 50 #[.int .i64 0,.int .i64 0,.slice none 0 0,.slice none 0 0,.int .i64 0,.int .i64 0,.int .i64 0,.int .i64 0,.int .i64 0,.int .i64 0,.bool false,.int .i64 0,.int .i64 0,.bool false]).keep td id;have hbN:=Blk.new (((w.alloc (.cells #[e,a,s,r,l,n] 29)).alloc (.cells #[.int .i64 c1,.int .i64 c2,.int .i64 c3,.int .i64 c4,.int .i64 c5,.int .i64 c6] 31)).alloc (.cells #[.int .i64 0,.int .i64 0,.slice none 0 0,.slice none 0 0,.int .i64 0,.int .i64 0,.int .i64 0,.int .i64 0,.int .i64 0,.int .i64 0,.bool false,.int .i64 0,.int .i64 0,.bool false] 50)) 50 #[.int .i64 0,.int .i64 0,.slice none 0 0,.slice none 0 0,.int .i64 0,.int .i64 0,.int .i64 0,.int .i64 0,.int .i64 0,.int .i64 0,.bool false,.int .i64 0,.int .i64 0,.bool false];rw[show((w.alloc (.cells #[e,a,s,r,l,n] 29)).alloc (.cells #[.int .i64 c1,.int .i64 c2,.int .i64 c3,.int .i64 c4,.int .i64 c5,.int .i64 c6] 31)).heap.size=w.heap.size+2 by simp]at hbR;rw[show(((w.alloc (.cells #[e,a,s,r,l,n] 29)).alloc (.cells #[.int .i64 c1,.int .i64 c2,.int .i64 c3,.int .i64 c4,.int .i64 c5,.int .i64 c6] 31)).alloc (.cells #[.int .i64 0,.int .i64 0,.slice none 0 0,.slice none 0 0,.int .i64 0,.int .i64 0,.int .i64 0,.int .i64 0,.int .i64 0,.int .i64 0,.bool false,.int .i64 0,.int .i64 0,.bool false] 50)).heap.size=w.heap.size+3 by simp]at hbN;have hsz:((((w.alloc (.cells #[e,a,s,r,l,n] 29)).alloc (.cells #[.int .i64 c1,.int .i64 c2,.int .i64 c3,.int .i64 c4,.int .i64 c5,.int .i64 c6] 31)).alloc (.cells #[.int .i64 0,.int .i64 0,.slice none 0 0,.slice none 0 0,.int .i64 0,.int .i64 0,.int .i64 0,.int .i64 0,.int .i64 0,.int .i64 0,.bool false,.int .i64 0,.int .i64 0,.bool false] 50)).alloc (.cells #[.int .i64 0,.int .i64 0,.slice none 0 0,.slice none 0 0,.int .i64 0,.int .i64 0,.int .i64 0,.int .i64 0,.int .i64 0,.int .i64 0,.bool false,.int .i64 0,.int .i64 0,.bool false] 50)).heap.size=w.heap.size+4:=by simp
 have hW:=h.keep tw;have HM:=Lib.hid (zed hW hn (c1,c2,c3,c4,c5,c6) 1 2);unfold zcq at HM;simp only at HM;have HL:Hid (zcr b (c1,c2,c3,c4,c5,c6)=if za7 b (c1,c2,c3,c4,c5,c6) 1 2=0 then(if c1=1 then{Rcp.none with base:=zgn b (c1,c2,c3,c4,c5,c6)}else{Rcp.none with plus:=zbo (c1,c2,c3,c4,c5,c6)},0)else(Rcp.none,za7 b (c1,c2,c3,c4,c5,c6) 1 2)):=Lib.hid rfl;have HCU:=Lib.hid (fun h=>zv0 (b:=b) (c:=(c1,c2,c3,c4,c5,c6)) h);have HPR:=Lib.hid (fun h=>znc (b:=b) (c:=(c1,c2,c3,c4,c5,c6)) h);generalize za7 b (c1,c2,c3,c4,c5,c6) 1 2=m at *;have HW:=Lib.hid hW;obtain⟨Ae,ce,rfl,_,_⟩:=h.ents.form;obtain⟨Aa,ca,rfl,_,_⟩:=h.accs.form;obtain⟨As,cs,rfl,_,_⟩:=h.stakes.form;obtain⟨Ar,cr,rfl,_,_⟩:=h.rates.form;obtain⟨Al,cl,rfl,_,_⟩:=h.locks.form;obtain⟨An,cn,rfl,_,_⟩:=h.ent.row.form;clear ta tb tc td h hW;go_enter Tryz.func42,Tryz.ntmps42;go_wp2_with fail;generalize(((w.alloc (.cells #[.slice Ae b.ents.length ce,.slice Aa b.accs.length ca,.slice As b.stakes.length cs,.slice Ar b.rates.length cr,.slice Al b.locks.length cl,.slice An us.length cn] 29)).alloc (.cells #[.int .i64 c1,.int .i64 c2,.int .i64 c3,.int .i64 c4,.int .i64 c5,.int .i64 c6] 31)).alloc (.cells #[.int .i64 0,.int .i64 0,.slice none 0 0,.slice none 0 0,.int .i64 0,.int .i64 0,.int .i64 0,.int .i64 0,.int .i64 0,.int .i64 0,.bool false,.int .i64 0,.int .i64 0,.bool false] 50)).alloc (.cells #[.int .i64 0,.int .i64 0,.slice none 0 0,.slice none 0 0,.int .i64 0,.int .i64 0,.int .i64 0,.int .i64 0,.int .i64 0,.int .i64 0,.bool false,.int .i64 0,.int .i64 0,.bool false] 50)=W at *;generalize hzw:w.heap.size=z at *;have HZW:=Lib.hid hzw;clear hzw;refine HM.out.mono ?_;rintro _ w1 ⟨rfl,t1⟩;clear HM;have b1:=hbC.keep t1 id;have r1:=hbR.keep t1 id;have n1:=hbN.keep t1 id;have k1:=hbB.keep t1 id;have h1:=HW.out.keep t1;have tW:=tw.trans t1;have s1:z+4≤w1.heap.size:=by have:=t1.size;omega
 clear hbC hbR hbN hbB HW tw t1 hsz;by_cases hm:m=0
 rotate_left
 ·have hm':(m !=0)=true:=by simpa using hm
  have HLN:=Lib.hid (show zcr b (c1,c2,c3,c4,c5,c6)=(Rcp.none,m) by rw[HL.out,if_neg hm]);clear hm;go_wp2_with (refine wpList_load_row rfl _ _ rfl (z+3) (by rfl) 50 #[.int .i64 0,.int .i64 0,.slice none 0 0,.slice none 0 0,.int .i64 0,.int .i64 0,.int .i64 0,.int .i64 0,.int .i64 0,.int .i64 0,.bool false,.int .i64 0,.int .i64 0,.bool false] (0,0) _ n1 Tryz.underlying50 rfl (by kernel_rfl) ?_;refine Hid.out ?_);refine Lib.hid ?_;go_wp2_with (refine stH (z+2) #[.int .i64 0,.int .i64 0,.slice none 0 0,.slice none 0 0,.int .i64 0,.int .i64 0,.int .i64 0,.int .i64 0,.int .i64 0,.int .i64 0,.bool false,.int .i64 0,.int .i64 0,.bool false] r1 ?_);intro w9 HBF HTF;go_wp2;(try simp only[exS]);refine zbi HBF.out ?_;unfold zmm;rw[HLN.out];exact⟨_,rfl,⟨_,_,rfl,Row.nil _ _ _,Row.nil _ _ _⟩,tW.trans' (F':=fun g=>g=z+2) HTF.out (fun i hi=>.inr (by have hi:i=z+2:=hi;have:=HZW.out;omega))⟩
 subst hm;obtain⟨hr,hc5⟩:=HCU.out rfl;(try simp only at hr hc5);subst hc5;obtain⟨hp0,hp1⟩:=HPR.out rfl;(try simp only at hp0 hp1);clear HCU HPR;have HLL:=Lib.hid (show zcr b (c1,c2,c3,c4,0,c6)=(if c1=1 then{Rcp.none with base:=zgn b (c1,c2,c3,c4,0,c6)}else{Rcp.none with plus:=zbo (c1,c2,c3,c4,0,c6)},0) by rw[HL.out,if_pos rfl]);clear HL;have q0:=b1.at0;rcases hr with rfl|rfl
 ·have hE:=h1.map;have HT:=Lib.hid (zqz h1.ent hul hll (by rw[hE];exact h64) c2 c3 c4 c6);have HLB:=Lib.hid (show zcr b (1,c2,c3,c4,0,c6)=({Rcp.none with base:=zda (zcl (zay b.entries) (c2,c3,c4) c6).sum},0)from HLL.out.trans rfl);rw[hE]at HT;clear HLL hE;have HTO:=Lib.hid (show(if(zda (zcl (zay b.entries) (c2,c3,c4) c6).sum).2=0 then(zda (zcl (zay b.entries) (c2,c3,c4) c6).sum).1 else 0)=(zda (zcl (zay b.entries) (c2,c3,c4) c6).sum).1 by unfold zda;split<;>rfl);generalize zda (zcl (zay b.entries) (c2,c3,c4) c6).sum=R at *;obtain⟨R1,R2⟩:=R;simp only at HT HTO;have g5:=k1.at5;have q1:=b1.at1;have q2:=b1.at2;have q3:=b1.at3;have q5:=b1.at5;go_wp2_with fail;refine HT.out.mono ?_;rintro _ w2 ⟨rfl,t2⟩;clear HT g5 q0 q1 q2 q3 q5;go_wp2_with fail;refine(zsu R1 R2 w2).mono ?_;rintro _ w3 ⟨rfl,t3⟩;rw[HTO.out];have n3:=n1.keep (t2.trans t3) id;have r3:=r1.keep (t2.trans t3) id;have tW3:=tW.trans (t2.trans t3);clear n1 r1 b1 k1 h1 t2 t3 tW HTO;go_wp2_with (refine zku rfl _ _ _ rfl (z+3) 0 (.int .i64 R1) (.int .i64 R2) (by rfl) (by rfl) rfl rfl (by rfl) n3 (by simp) ?_;refine Hid.out ?_);refine Lib.hid ?_;intro w4 n4 ts4;(try simp only[List.setIfInBounds_toArray,List.set_cons_succ,List.set_cons_zero]at n4);have r4:=r3.keep ts4 (by omega);have t4:=tW3.trans' ts4 (fun i hi=>.inr (by have hi:i=z+3:=hi;have:=HZW.out;omega));clear n3 r3 ts4 tW3;go_wp2_with (refine wpList_load_row rfl _ _ rfl (z+3) (by rfl) 50 #[.int .i64 R1,.int .i64 R2,.slice none 0 0,.slice none 0 0,.int .i64 0,.int .i64 0,.int .i64 0,.int .i64 0,.int .i64 0,.int .i64 0,.bool false,.int .i64 0,.int .i64 0,.bool false] (0,0) _ n4 Tryz.underlying50 rfl (by kernel_rfl) ?_;refine Hid.out ?_);refine Lib.hid ?_;go_wp2_with (refine stH (z+2) #[.int .i64 R1,.int .i64 R2,.slice none 0 0,.slice none 0 0,.int .i64 0,.int .i64 0,.int .i64 0,.int .i64 0,.int .i64 0,.int .i64 0,.bool false,.int .i64 0,.int .i64 0,.bool false] r4 ?_);intro w9 HBF HTF;go_wp2;(try simp only[exS]);refine zbi HBF.out ?_;unfold zmm;rw[HLB.out];exact⟨_,rfl,⟨_,_,rfl,Row.nil _ _ _,Row.nil _ _ _⟩,t4.trans' (F':=fun g=>g=z+2) HTF.out (fun i hi=>.inr (by have hi:i=z+2:=hi;have:=HZW.out;omega))⟩
 ·have HL2:=Lib.hid (show zcr b (2,c2,c3,c4,0,c6)=({Rcp.none with plus:=zbo (2,c2,c3,c4,0,c6)},0) by rw[HLL.out,if_neg (by decide)]);clear HLL h64 hul hll hn h1 k1;have own1:=World.ownsRow_nil w1 0 31 6;have ob1:∀g,(Value.slice none 0 0).ownBlock=some g→z+4≤g:=fun g9 hg9=>by cases hg9
  have q3:=b1.at3;by_cases hpos:0<c4
  ·have HPL:=Lib.hid (show zbo (2,c2,c3,c4,0,c6)=[(2,c2,c3,c4-1,0,c6),(1,c2,c3,c4,0,c6)] by simp[zbo,hpos]);have p2:=n1.at2;have e1:=b1.at1;have e2:=b1.at2;have e3:=b1.at3;have e5:=b1.at5;go_wp2_with (at_builtin;refine Hid.out ?_);refine Lib.hid ?_;have bG:=Blk.new w1 31 #[.int .i64 2,.int .i64 c2,.int .i64 c3,.int .i64 (c4-1),.int .i64 0,.int .i64 c6];refine zat _ rfl _ _ 40 rfl za1 (own1.alloc _) (by rfl) (Go.Gk.Src.one (news:=za2 (2,c2,c3,(c4-1),0,c6)) rfl (fun m9 u9 hu9=>by rw[bG.cell m9];simpa[za2]using hu9)) (by rfl) (zjd _) (by unfold maxLen;simp) (by simp) ?_;intro v4 x4 ho4 hg4 hl4;obtain⟨O4,k4,rfl,_,_⟩:=zac ho4;have ta4:=tal w1 (.cells #[.int .i64 2,.int .i64 c2,.int .i64 c3,.int .i64 (c4-1),.int .i64 0,.int .i64 c6] 31);have hs4a:=ta4.size;have tg4:Tch (fun g=>z+4≤g) (w1.alloc (.cells #[.int .i64 2,.int .i64 c2,.int .i64 c3,.int .i64 (c4-1),.int .i64 0,.int .i64 c6] 31)) x4:=Tch.grown hg4 fun k9 hk9=>.inl (ob1 k9 hk9)
   have nn4:Blk x4 (z+3) 50 _:=(n1.keep ta4 id).keep tg4 (by omega);have rr4:Blk x4 (z+2) 50 _:=(r1.keep ta4 id).keep tg4 (by omega);have bb4:Blk x4 (z+1) 31 _:=(b1.keep ta4 id).keep tg4 (by omega);have tt4:=(tW.trans ta4).trans' tg4 (fun i hi=>.inr (by have hi:z+4≤i:=hi;have:=HZW.out;omega));have hh4:z+4≤x4.heap.size:=by have:=tg4.size;omega
   have ob4:∀g,(Value.slice O4 (0+1) k4).ownBlock=some g→z+4≤g:=fun g9 hg9=>by
    rcases hl4 g9 hg9 with h9|h9
    ·exact ob1 g9 h9
    ·omega
   clear hg4 hl4 tg4 ta4 hs4a p2 e1 e2 e3 e5 bG own1 n1 r1 tW b1;go_step;go_step;go_step;refine zab rfl _ _ _ rfl (z+3) 2 (.slice O4 (0+1) k4) (by rfl) (by rfl) rfl (by rfl) nn4 (by simp) ?_;intro w4 n4 ts4;simp only[List.setIfInBounds_toArray,List.set_cons_succ,List.set_cons_zero]at n4;have own4:=ts4.own ho4 (fun g9 hg9 he9=>by have he9:g9=z+3:=he9;have:=ob4 g9 hg9;omega);have r4:=rr4.keep ts4 (by omega);have b4:=bb4.keep ts4 (by omega);have t4:=tt4.trans' ts4 (fun i hi=>.inr (by have hi:i=z+3:=hi;have:=HZW.out;omega));have s4:z+4≤w4.heap.size:=by have:=ts4.size;omega
   clear nn4 rr4 bb4 tt4 ho4 ts4 hh4;clear q3 q0;have p2:=n4.at2;have e1:=b4.at1;have e2:=b4.at2;have e3:=b4.at3;have e5:=b4.at5;go_wp2_with (at_builtin;refine Hid.out ?_);refine Lib.hid ?_;have bG:=Blk.new w4 31 #[.int .i64 1,.int .i64 c2,.int .i64 c3,.int .i64 c4,.int .i64 0,.int .i64 c6];refine zat _ rfl _ _ 40 rfl za1 (own4.alloc _) (by rfl) (Go.Gk.Src.one (news:=za2 (1,c2,c3,c4,0,c6)) rfl (fun m9 u9 hu9=>by rw[bG.cell m9];simpa[za2]using hu9)) (by rfl) (zjd _) (by unfold maxLen;simp) (by simp) ?_;intro v5 x5 ho5 hg5 hl5;obtain⟨O5,k5,rfl,_,_⟩:=zac ho5;have ta5:=tal w4 (.cells #[.int .i64 1,.int .i64 c2,.int .i64 c3,.int .i64 c4,.int .i64 0,.int .i64 c6] 31);have hs5a:=ta5.size;have tg5:Tch (fun g=>z+4≤g) (w4.alloc (.cells #[.int .i64 1,.int .i64 c2,.int .i64 c3,.int .i64 c4,.int .i64 0,.int .i64 c6] 31)) x5:=Tch.grown hg5 fun k9 hk9=>.inl (ob4 k9 hk9)
   have nn5:Blk x5 (z+3) 50 _:=(n4.keep ta5 id).keep tg5 (by omega);have rr5:Blk x5 (z+2) 50 _:=(r4.keep ta5 id).keep tg5 (by omega);have bb5:Blk x5 (z+1) 31 _:=(b4.keep ta5 id).keep tg5 (by omega);have tt5:=(t4.trans ta5).trans' tg5 (fun i hi=>.inr (by have hi:z+4≤i:=hi;have:=HZW.out;omega));have hh5:z+4≤x5.heap.size:=by have:=tg5.size;omega
   have ob5:∀g,(Value.slice O5 ((0+1)+1) k5).ownBlock=some g→z+4≤g:=fun g9 hg9=>by
    rcases hl5 g9 hg9 with h9|h9
    ·exact ob4 g9 h9
    ·omega
   clear hg5 hl5 tg5 ta5 hs5a p2 e1 e2 e3 e5 bG own4 n4 r4 t4 b4;go_step;go_step;go_step;refine zab rfl _ _ _ rfl (z+3) 2 (.slice O5 ((0+1)+1) k5) (by rfl) (by rfl) rfl (by rfl) nn5 (by simp) ?_;intro w5 n5 ts5;simp only[List.setIfInBounds_toArray,List.set_cons_succ,List.set_cons_zero]at n5;have own5:=ts5.own ho5 (fun g9 hg9 he9=>by have he9:g9=z+3:=he9;have:=ob5 g9 hg9;omega);have r5:=rr5.keep ts5 (by omega);have b5:=bb5.keep ts5 (by omega);have t5:=tt5.trans' ts5 (fun i hi=>.inr (by have hi:i=z+3:=hi;have:=HZW.out;omega));have s5:z+4≤w5.heap.size:=by have:=ts5.size;omega
   clear nn5 rr5 bb5 tt5 ho5 ts5 hh5;go_wp2_with (refine wpList_load_row rfl _ _ rfl (z+3) (by rfl) 50 #[.int .i64 0,.int .i64 0,.slice O5 ((0+1)+1) k5,.slice none 0 0,.int .i64 0,.int .i64 0,.int .i64 0,.int .i64 0,.int .i64 0,.int .i64 0,.bool false,.int .i64 0,.int .i64 0,.bool false] (0,0) _ n5 Tryz.underlying50 rfl (by kernel_rfl) ?_;refine Hid.out ?_);refine Lib.hid ?_;go_wp2_with (refine stH (z+2) #[.int .i64 0,.int .i64 0,.slice O5 ((0+1)+1) k5,.slice none 0 0,.int .i64 0,.int .i64 0,.int .i64 0,.int .i64 0,.int .i64 0,.int .i64 0,.bool false,.int .i64 0,.int .i64 0,.bool false] r5 ?_);intro w9 HBF HTF;go_wp2;(try simp only[exS]);refine zbi HBF.out ?_;unfold zmm;rw[HL2.out];refine⟨_,rfl,⟨_,_,rfl,?_,Row.nil _ _ _⟩,t5.trans' HTF.out (fun i hi=>.inr (by have hi:i=z+2:=hi;have:=HZW.out;omega))⟩;simp only;rw[HPL.out];exact Row.own ((HTF.out).own own5 (fun g hg he=>by have he:g=z+2:=he;have:=ob5 g hg;omega)) (fun _ _=>trivial)
  ·obtain rfl:c4=0:=by omega
   have HPL:=Lib.hid (show zbo (2,c2,c3,0,0,c6)=[(1,c2,c3,0,0,c6)] by simp[zbo]);have p2:=n1.at2;have e1:=b1.at1;have e2:=b1.at2;have e3:=b1.at3;have e5:=b1.at5;go_wp2_with (at_builtin;refine Hid.out ?_);refine Lib.hid ?_;have bG:=Blk.new w1 31 #[.int .i64 1,.int .i64 c2,.int .i64 c3,.int .i64 0,.int .i64 0,.int .i64 c6];refine zat _ rfl _ _ 40 rfl za1 (own1.alloc _) (by rfl) (Go.Gk.Src.one (news:=za2 (1,c2,c3,0,0,c6)) rfl (fun m9 u9 hu9=>by rw[bG.cell m9];simpa[za2]using hu9)) (by rfl) (zjd _) (by unfold maxLen;simp) (by simp) ?_;intro v5 x5 ho5 hg5 hl5;obtain⟨O5,k5,rfl,_,_⟩:=zac ho5;have ta5:=tal w1 (.cells #[.int .i64 1,.int .i64 c2,.int .i64 c3,.int .i64 0,.int .i64 0,.int .i64 c6] 31);have hs5a:=ta5.size;have tg5:Tch (fun g=>z+4≤g) (w1.alloc (.cells #[.int .i64 1,.int .i64 c2,.int .i64 c3,.int .i64 0,.int .i64 0,.int .i64 c6] 31)) x5:=Tch.grown hg5 fun k9 hk9=>.inl (ob1 k9 hk9)
   have nn5:Blk x5 (z+3) 50 _:=(n1.keep ta5 id).keep tg5 (by omega);have rr5:Blk x5 (z+2) 50 _:=(r1.keep ta5 id).keep tg5 (by omega);have bb5:Blk x5 (z+1) 31 _:=(b1.keep ta5 id).keep tg5 (by omega);have tt5:=(tW.trans ta5).trans' tg5 (fun i hi=>.inr (by have hi:z+4≤i:=hi;have:=HZW.out;omega));have hh5:z+4≤x5.heap.size:=by have:=tg5.size;omega
   have ob5:∀g,(Value.slice O5 (0+1) k5).ownBlock=some g→z+4≤g:=fun g9 hg9=>by
    rcases hl5 g9 hg9 with h9|h9
    ·exact ob1 g9 h9
    ·omega
   clear hg5 hl5 tg5 ta5 hs5a p2 e1 e2 e3 e5 bG own1 n1 r1 tW b1;go_step;go_step;go_step;refine zab rfl _ _ _ rfl (z+3) 2 (.slice O5 (0+1) k5) (by rfl) (by rfl) rfl (by rfl) nn5 (by simp) ?_;intro w5 n5 ts5;simp only[List.setIfInBounds_toArray,List.set_cons_succ,List.set_cons_zero]at n5;have own5:=ts5.own ho5 (fun g9 hg9 he9=>by have he9:g9=z+3:=he9;have:=ob5 g9 hg9;omega);have r5:=rr5.keep ts5 (by omega);have b5:=bb5.keep ts5 (by omega);have t5:=tt5.trans' ts5 (fun i hi=>.inr (by have hi:i=z+3:=hi;have:=HZW.out;omega));have s5:z+4≤w5.heap.size:=by have:=ts5.size;omega
   clear nn5 rr5 bb5 tt5 ho5 ts5 hh5;go_wp2_with (refine wpList_load_row rfl _ _ rfl (z+3) (by rfl) 50 #[.int .i64 0,.int .i64 0,.slice O5 (0+1) k5,.slice none 0 0,.int .i64 0,.int .i64 0,.int .i64 0,.int .i64 0,.int .i64 0,.int .i64 0,.bool false,.int .i64 0,.int .i64 0,.bool false] (0,0) _ n5 Tryz.underlying50 rfl (by kernel_rfl) ?_;refine Hid.out ?_);refine Lib.hid ?_;go_wp2_with (refine stH (z+2) #[.int .i64 0,.int .i64 0,.slice O5 (0+1) k5,.slice none 0 0,.int .i64 0,.int .i64 0,.int .i64 0,.int .i64 0,.int .i64 0,.int .i64 0,.bool false,.int .i64 0,.int .i64 0,.bool false] r5 ?_);intro w9 HBF HTF;go_wp2;(try simp only[exS]);refine zbi HBF.out ?_;unfold zmm;rw[HL2.out];refine⟨_,rfl,⟨_,_,rfl,?_,Row.nil _ _ _⟩,t5.trans' HTF.out (fun i hi=>.inr (by have hi:i=z+2:=hi;have:=HZW.out;omega))⟩;simp only;rw[HPL.out];exact Row.own ((HTF.out).own own5 (fun g hg he=>by have he:g=z+2:=he;have:=ob5 g hg;omega)) (fun _ _=>trivial)
