/-
  Plain: sets of numbers as rows of words, a bit for each. No program in sight.
-/
import Derived.Test.YtoegobjnjljegaaGreatDoorZ88
import Derived.WalkSmall
import Derived.Laws.OwnMore
import Derived.Deep.OwnRows
import Derived.Test.YtoegobjnjljegaaGreatDoorSrr
import Derived.Test.YtoegobjnjljegaaGreatDoorZ22
set_option maxRecDepth 100000
set_option maxHeartbeats 25600000
namespace Go.Gk.V39
def bitsOf (w:Nat):List Nat:=(List.range 64).filter w.testBit
theorem pow_bit (k a i:Nat):(2^k*a).testBit i=(decide (k≤i)&&a.testBit (i-k)):=by
 rw[Nat.mul_comm,←Nat.shiftLeft_eq,Nat.testBit_shiftLeft]
theorem odd_bit (m i:Nat):(2*m+1).testBit i=if i=0 then true else m.testBit (i-1):=by
 cases i with
 |zero=>simp[Nat.testBit_zero]
 |succ i=>
  rw[if_neg (by omega),Nat.testBit_succ];congr 1;omega
theorem even_bit (m i:Nat):(2*m).testBit i=if i=0 then false else m.testBit (i-1):=by
 cases i with
 |zero=>simp[Nat.testBit_zero]
 |succ i=>
  rw[if_neg (by omega),Nat.testBit_succ];congr 1;omega
theorem low_off (k m:Nat):(2^k*(2*m+1))&&&(2^k*(2*m+1)-1)=2^k*(2*m):=by
 apply Nat.eq_of_testBit_eq
 intro i
 have h1:2^k*(2*m+1)-1=2^k*(2*m)+(2^k-1):=by
  have:=Nat.two_pow_pos k;rw[Nat.mul_add,Nat.mul_one];omega
 rw[Nat.testBit_and,h1,Nat.testBit_two_pow_mul_add _ (by have:=Nat.two_pow_pos k;omega),pow_bit,pow_bit];by_cases hi:i<k
 ·rw[if_pos hi];simp[show¬k≤i by omega]
 ·rw[if_neg hi,odd_bit,even_bit];simp only[show k≤i by omega,decide_true,Bool.true_and];split<;>simp
theorem filter_first {p q:Nat→Bool} {k:Nat}:∀{l:List Nat},l.Pairwise (· < ·)→k∈l→(∀i∈l,p i=(decide (i=k)||q i))→(∀i,q i=true→k<i)→l.filter p=k::l.filter q
 |[],_,h,_,_=>by cases h
 |x::r,hs,h,hp,hq=>by
  have hs2:=List.pairwise_cons.1 hs;by_cases hx:x=k
  ·subst hx;rw[List.filter_cons_of_pos (by rw[hp x (List.mem_cons_self ..)];simp),List.filter_cons_of_neg (fun h9=>Nat.lt_irrefl _ (hq _ h9))];congr 1;refine List.filter_congr fun i hi=>?_
   rw[hp i (List.mem_cons_of_mem _ hi)];have:=hs2.1 i hi;simp[show¬i=x by omega]
  ·have hm:=(List.mem_cons.1 h).resolve_left fun e=>hx e.symm
   have hlt:=hs2.1 k hm;have hqx:¬q x=true:=fun h9=>by have:=hq x h9;omega
   rw[List.filter_cons_of_neg (by rw[hp x (List.mem_cons_self ..)];simp[hx,hqx]),List.filter_cons_of_neg hqx];exact filter_first hs2.2 hm (fun i hi=>hp i (List.mem_cons_of_mem _ hi)) hq
theorem bits_low {k m:Nat} (hk:k<64):bitsOf (2^k*(2*m+1))=k::bitsOf (2^k*(2*m)):=by
 unfold bitsOf;refine filter_first List.pairwise_lt_range (List.mem_range.2 hk) (fun i _=>?_) fun i hi=>?_
 ·rw[pow_bit,pow_bit,odd_bit,even_bit];by_cases h:i=k
  ·subst h;simp
  ·by_cases h2:k≤i
   ·simp[h,h2,show¬i-k=0 by omega]
   ·simp[h,h2]
 ·rw[pow_bit,even_bit]at hi;by_cases h2:k<i
  ·exact h2
  ·exfalso
   by_cases h3:i=k
   ·subst h3;simp at hi
   ·simp[show¬k≤i by omega]at hi
theorem bits_none:bitsOf 0=[]:=by
 unfold bitsOf;exact List.filter_eq_nil_iff.2 fun i _=>by simp
def memW (ws:List Nat) (n:Nat):Bool:=(ws.getD (n/64) 0).testBit (n%64)
theorem or_bit (w k i:Nat):(w|||2^k).testBit i=(w.testBit i||decide (k=i)):=by
 rw[Nat.testBit_or,Nat.testBit_two_pow]
theorem mem_more (ws:List Nat) (n:Nat):memW (ws++[0]) n=memW ws n:=by
 unfold memW;rw[List.getD_eq_getElem?_getD,List.getD_eq_getElem?_getD];by_cases h:n/64<ws.length
 ·rw[List.getElem?_append_left h]
 ·rw[List.getElem?_append_right (by omega),List.getElem?_eq_none (l:=ws) (by omega)]
  cases hk:n/64-ws.length with
  |zero=>simp
  |succ k=>simp
theorem mem_put {ws:List Nat} {n:Nat} (h:n/64<ws.length) (j:Nat):memW (ws.set (n/64) (ws.getD (n/64) 0|||2^(n%64))) j=(memW ws j||decide (j=n)):=by
 unfold memW;rw[List.getD_eq_getElem?_getD,List.getElem?_set];by_cases hq:n/64=j/64
 ·rw[if_pos hq,if_pos h,Option.getD_some,or_bit,hq];congr 1;by_cases hj:j=n
  ·simp[hj]
  ·simp only[hj,decide_false,decide_eq_false_iff_not];omega
 ·rw[if_neg hq,List.getD_eq_getElem?_getD];have:¬j=n:=fun e=>hq (by rw[e])
  simp[this]
def numsTo (ws:List Nat) (k:Nat):List Nat:=(List.range k).flatMap fun i=>(bitsOf (ws.getD i 0)).map fun b=>64*i+b
def numsOf (ws:List Nat):List Nat:=numsTo ws ws.length
theorem bits_mem {w b:Nat}:b∈bitsOf w↔b<64∧w.testBit b=true:=by
 unfold bitsOf;rw[List.mem_filter,List.mem_range]
theorem nums_mem {ws:List Nat} {n:Nat}:n∈numsOf ws↔memW ws n=true:=by
 unfold numsOf numsTo memW;rw[List.mem_flatMap];constructor
 ·rintro⟨i,_,h⟩;obtain⟨b,hb,rfl⟩:=List.mem_map.1 h;obtain⟨h1,h2⟩:=bits_mem.1 hb;rw[show(64*i+b)/64=i by omega,show(64*i+b)%64=b by omega];exact h2
 ·intro h
  have hl:n/64<ws.length:=by
   rcases Nat.lt_or_ge (n/64) ws.length with h1|h1
   ·exact h1
   ·rw[List.getD_eq_getElem?_getD,List.getElem?_eq_none h1]at h;simp at h
  exact⟨n/64,List.mem_range.2 hl,List.mem_map.2 ⟨n%64,bits_mem.2 ⟨by omega,h⟩,by omega⟩⟩
theorem nums_up (ws:List Nat):∀k,(numsTo ws k).Pairwise (· < ·)∧∀n∈numsTo ws k,n<64*k
 |0=>⟨List.Pairwise.nil,fun _ h=>by cases h⟩
 |k+1=>by
  obtain⟨h1,h2⟩:=nums_up ws k
  have e:numsTo ws (k+1)=numsTo ws k++(bitsOf (ws.getD k 0)).map fun b=>64*k+b:=by
   unfold numsTo;rw[List.range_succ,List.flatMap_append];simp
  rw[e]
  have h3:∀n∈(bitsOf (ws.getD k 0)).map (fun b=>64*k+b),64*k≤n∧n<64*(k+1):=fun n hn=>by
   obtain⟨b,hb,rfl⟩:=List.mem_map.1 hn;have:=(bits_mem.1 hb).1;omega
  refine⟨List.pairwise_append.2 ⟨h1,?_,fun x hx y hy=>?_⟩,fun n hn=>?_⟩
  ·refine List.pairwise_map.2 ?_;unfold bitsOf;refine(List.pairwise_lt_range.filter _).imp fun h=>?_
   omega
  ·have:=h2 x hx;have:=(h3 y hy).1;omega
  ·rcases List.mem_append.1 hn with h|h
   ·have:=h2 n h;omega
   ·exact(h3 n h).2
theorem nums_lt (ws:List Nat):(numsOf ws).Pairwise (· < ·):=(nums_up ws ws.length).1
open Go.RowKit Go.Gk Go.Gk.V32 Go.Gk.V33 Go.Gk.V37 Go.Gk.V38
def Feeds (b:Bks) (c:Rt6) (x:Int):Prop:=∃d,Need b [c] d∧x∈zoh b d
theorem need_split {b:Bks} {c d:Rt6}:Need b [c] d↔d=c∨∃k∈zyk (zfg b c).1,Need b [k] d:=by
 constructor
 ·intro h;induction h with
  |base h=>exact .inl (List.mem_singleton.1 h)
  | @step e k _ hk ih=>
   rcases ih with rfl|⟨r,hr,h⟩
   ·exact .inr ⟨k,hk,.base (List.mem_singleton.2 rfl)⟩
   ·exact .inr ⟨r,hr,h.step hk⟩
 ·rintro(rfl|⟨k,hk,h⟩)
  ·exact .base (List.mem_singleton.2 rfl)
  ·induction h with
   |base h=>rw[List.mem_singleton]at h;subst h;exact .step (.base (List.mem_singleton.2 rfl)) hk
   |step _ hj ih=>exact .step ih hj
theorem zi6 {s:zgm} {r:Rw3}:∀{ps:List Pst} {i:Nat},r∈zbq s i ps→∃n:Nat,∃h:n<ps.length,r=(((i+n:Nat):Int)+1,ps[n].2.2.2.1,ps[n].2.2.2.2)∧zbd ps[n]=s
 |[],_,h=>by cases h
 |q::t,i,h=>by
  have go:r∈zbq s (i+1) t→∃n:Nat,∃h:n<(q::t).length,r=(((i+n:Nat):Int)+1,(q::t)[n].2.2.2.1,(q::t)[n].2.2.2.2)∧zbd (q::t)[n]=s:=fun h=>by
   obtain⟨n,hn,h1,h2⟩:=zi6 h;exact⟨n+1,by simpa using hn,by rw[h1];simp only[List.getElem_cons_succ];rw[show i+1+n=i+(n+1) by omega],by simpa using h2⟩
  simp only[zbq]at h;split at h
  ·next hq=>
   rcases List.mem_cons.1 h with rfl|h
   ·exact⟨0,by simp,rfl,hq⟩
   ·exact go h
  ·exact go h
theorem ids_mem {b:Bks} {d:Rt6} {x:Int} (h:x∈zoh b d):∃n:Nat,∃hn:n<(zay b.entries).length,x=(n:Int)+1∧(zay b.entries)[n].1=d.2.2.2.1∧(zay b.entries)[n].2.1=d.2.1∧(d.2.2.2.2.2≠0→(zay b.entries)[n].2.2.2.1=d.2.2.2.2.2):=by
 unfold zoh at h;split at h
 ·obtain⟨r,hr,rfl⟩:=List.mem_map.1 h;obtain⟨h1,h2⟩:=List.mem_filter.1 hr;obtain⟨n,hn,h3,h4⟩:=zi6 h1;rw[Nat.zero_add]at h3;unfold zbd at h4;simp only[Prod.mk.injEq]at h4;refine⟨n,hn,by rw[h3],h4.2.2,h4.1,fun h0=>?_⟩;rw[h3]at h2;simpa[h0]using h2
 ·cases h
open Go.Gk.V37 Go.Gk.V33 Go.Gk.V38 Go.RowKit
def othD (b:Bks) (x:Rt6):Bool:=x.1 !=1|| !zas b.accs x.2.2.1
structure NeedSet (b:Bks) (c:Rt6) (L:List Rt6):Prop where
 nd:L.Nodup
 len:L.length≤20000
 mem:∀k,k∈L↔Need b [c] k
 lt:L.Pairwise fun x y=>Go.Proofs.ltOf z21 x y=true
theorem small_needs {b:Bks} {c:Rt6} (hok:zba b=true) (he:b.ents.length≤6) (ha:b.accs.length≤9) (hp:c.2.2.2.1≤3) (h:za3 c b.ents.length b.accs.length=0) {L:List Rt6} {er:Int} (hn:NeedsAns b [c] 20000 L er):er=0∧NeedSet b c L:=by
 have hb:z3p b [c]=0:=by
  unfold z3p;rw[if_neg (by simpa using h)];rfl
 rcases hn.ans (by omega) hb with⟨rfl,rfl,S,h1,h2,h3⟩|⟨rfl,hl,S,h1,rfl,h3⟩
 ·have:=z6e hok he ha hp h h1 h2;omega
 ·exact⟨rfl,(zzc S).nodup_iff.2 h1,by omega,fun k=>(zzc S).mem_iff.trans (h3 k),z4s h1⟩
def MovesAns (b:Bks) (c:Rt6) (L:List Rt6) (er:Int):Prop:=er=za3 c b.ents.length b.accs.length∧(er≠0→L=[])∧(er=0→∃N,NeedSet b c N∧L=N.filter fun x=>!othD b x)
theorem moves_bad {b:Bks} {c:Rt6} {er:Int} (h:za3 c b.ents.length b.accs.length=er) (h0:er≠0):MovesAns b c [] er:=⟨h.symm,fun _=>rfl,fun h9=>absurd h9 h0⟩
end Go.Gk.V39
namespace Go.Proofs.YtoegobjnjljegaaGreatDoor
open Go.RowKit Go.Gk Go.Gk.V33 Go.Gk.V37 Go.Gk.V38 Go.Gk.V39
section
variable {w:World} {bv bi B t mr mp:Nat} {e a s r l n lv:Value} {fs:List Value} {b:Bks} {us:List (Ent×Value)}
theorem moves1_any (h:Vw w bv bi B t mr mp e a s r l n lv fs b us) (hn:(zag b.accs).length≤1000) {z:Nat} (hz:Blk w z 34 #[.pointer (some ⟨bv,0,none⟩)]) (c1 c2 c3 c4 c5 c6:Int):
 Calls Tryz.prog 119 #[.agg #[.int .i64 c1,.int .i64 c2,.int .i64 c3,.int .i64 c4,.int .i64 c5,.int .i64 c6],.pointer (some ⟨z,0,none⟩)] w (zgr (othD b (c1,c2,c3,c4,c5,c6)) w):=by
 have tA:=tal w (.cells #[.int .i64 c1,.int .i64 c2,.int .i64 c3,.int .i64 c4,.int .i64 c5,.int .i64 c6] 31);have hz1:=hz.keep tA id;have HL:=Lib.hid (zdx (h.keep tA) hn c3);rw[zb9]at HL;have n0:=hz1.at0;obtain⟨g0,g1,g2,g3,g4,g5⟩:=(Blk.new w 31 #[.int .i64 c1,.int .i64 c2,.int .i64 c3,.int .i64 c4,.int .i64 c5,.int .i64 c6]).f6;have HT:=Lib.hid tA;have HO:=Lib.hid (show othD b (c1,c2,c3,c4,c5,c6)=(c1 !=1|| !zas b.accs c3)from rfl);rw[HO.out];generalize zas b.accs c3=lf at *;clear h hz hz1 tA HO;by_cases h1:c1=1
 ·subst h1;go_enter Tryz.func119,Tryz.ntmps119;go_wp2_with fail;refine HL.out.mono ?_;rintro _ w1 ⟨rfl,t1⟩;have HT1:=Lib.hid (HT.out.trans t1);clear HL;go_wp2;go_ret;exact⟨by simp,HT1.out⟩
 ·have hb:(c1 !=1)=true:=by simpa using h1
  rw[hb];clear h1 HL;go_enter Tryz.func119,Tryz.ntmps119;go_wp2;go_ret;exact⟨rfl,HT.out⟩
theorem moves_any (h:Vw w bv bi B t mr mp e a s r l n lv fs b us) (F:RuleFacts b) (hpl:(zay b.entries).length≤3000) (hE:b.ents.length≤6) (hA:b.accs.length≤9) (hT:Tab64 0 w) (c1 c2 c3 c4 c5 c6:Int) (hp3:c4≤3):
 Calls Tryz.prog 52 #[.pointer (some ⟨bv,0,none⟩),.agg #[.int .i64 c1,.int .i64 c2,.int .i64 c3,.int .i64 c4,.int .i64 c5,.int .i64 c6]] w fun x w'=>∃(L:List Rt6) (u:Value) (er:Int),x=.returned (.tuple #[u,.int .i64 er])∧zae za2 6 (fun g=>w.heap.size≤g) w' u L∧Tf w w'∧MovesAns b (c1,c2,c3,c4,c5,c6) L er:=by
 obtain⟨W,hW,tw,bV,bC⟩:=al2 w #[.pointer (some ⟨bv,0,none⟩)] #[.int .i64 c1,.int .i64 c2,.int .i64 c3,.int .i64 c4,.int .i64 c5,.int .i64 c6] 34 31;have HV:=Lib.hid (fun w' (t9:Tf w w')=>h.keep t9);have HTT:=Lib.hid (fun w' (t9:Tf w w')=>hT.keep t9);have HREC:=Lib.hid (zga (h.keep tw) F (hT.keep tw) c1 c2 c3 c4 c5 c6);have HRE:=Lib.hid (zz8 (b:=b) (c:=(c1,c2,c3,c4,c5,c6)));have HNS:=Lib.hid (fun h0 L er=>@small_needs b (c1,c2,c3,c4,c5,c6) F.hok hE hA hp3 h0 L er);have v0:=bV.at0;obtain⟨g0,g1,g2,g3,g4,g5⟩:=bC.f6;clear h hT hE hA hp3;go_enter Tryz.func52,Tryz.ntmps52;go_wp2_with fail;refine HREC.out.mono ?_;rintro _ w1 ⟨v1,rfl,hr1,t1⟩;clear HREC;have hvl:=bV.lt;generalize hzw:w.heap.size=z at *;have HZN:=Lib.hid hzw;clear hzw
 obtain⟨RQ,hRQ⟩:∃q,zfg b (c1,c2,c3,c4,c5,c6)=q:=⟨_,rfl⟩
 rw[hRQ]at hr1 HRE;obtain⟨R,er⟩:=RQ;simp only at hr1 HRE;rw[hRQ];clear hRQ;obtain⟨⟨b1,b2⟩,pl,mi,⟨s1,s2,s3,s4,s5,s6⟩,rd,⟨r1,r2⟩,hs⟩:=R;obtain⟨p1,m1,rfl,hp1,hm1⟩:=hr1;obtain⟨P1,k1,rfl,_,_⟩:=hp1.form;obtain⟨M1,d1,rfl,_,_⟩:=hm1.form;unfold z4g;simp only;by_cases her:er=0
 rotate_left
 ·have tG:=tal w1 (.cells #[.int .i64 b1,.int .i64 b2,.slice P1 pl.length k1,.slice M1 mi.length d1,.int .i64 s1,.int .i64 s2,.int .i64 s3,.int .i64 s4,.int .i64 s5,.int .i64 s6,.bool rd,.int .i64 r1,.int .i64 r2,.bool hs] 48);have T1:=tw.trans (t1.trans tG);have hx:(er !=0)=true:=by simpa using her
  have HA:=Lib.hid (moves_bad HRE.out.symm her);clear her g0 g1 g2 g3 g4 g5 v0 hp1 hm1 tG t1 bV bC hW;go_wp2;(try simp only[Exit.inBlock,Exit.then]);(try rw[Exit.noGoto_ret]);go_ret2
  exact⟨[],_,_,rfl,Row.nil _ _ _,T1,HA.out⟩
 subst her;obtain⟨W1,hW1,tG,bR,bL⟩:=al2 w1 #[.int .i64 b1,.int .i64 b2,.slice P1 pl.length k1,.slice M1 mi.length d1,.int .i64 s1,.int .i64 s2,.int .i64 s3,.int .i64 s4,.int .i64 s5,.int .i64 s6,.bool rd,.int .i64 r1,.int .i64 r2,.bool hs] #[.int .i64 c1,.int .i64 c2,.int .i64 c3,.int .i64 c4,.int .i64 c5,.int .i64 c6] 48 31;have t1G:=t1.trans tG;have tR:=tal w1 (.cells #[.int .i64 b1,.int .i64 b2,.slice P1 pl.length k1,.slice M1 mi.length d1,.int .i64 s1,.int .i64 s2,.int .i64 s3,.int .i64 s4,.int .i64 s5,.int .i64 s6,.bool rd,.int .i64 r1,.int .i64 r2,.bool hs] 48);have bV1:=(bV.keep t1 id).keep tR id;have bC1:=(bC.keep t1 id).keep tR id;have T1:=tw.trans t1G;have bV2:=bV.keep t1G id;obtain⟨f0,f1,f2,f3,f4,f5⟩:=bC1.f6;have v1:=bV1.at0;have hr:zae za2 6 (fun _=>True) W1 (.slice (some ⟨w1.heap.size+1,0,none⟩) 1 1) [(c1,c2,c3,c4,c5,c6)]:=Row.own (z0z (base:=0) (size:=6) (n:=1) bL (Nat.zero_le _) rfl (by decide)) (fun _ _=>trivial);have HN:=Lib.hid (zz3 (HV.out W1 T1) F hpl (HTT.out W1 T1) hr (by simp) 20000);have HBN:=Lib.hid (HNS.out HRE.out.symm);have HBS:=Lib.hid (show z<W1.heap.size from bV2.lt);clear g0 g1 g2 g3 g4 g5 v0 hp1 hm1 tG t1G t1 bV bC hW bV1 bC1 bR bL hr tR HNS;go_wp2_with fail;refine HN.out.mono ?_;rintro _ w2 ⟨L,u,er,rfl,hO,hA⟩;clear HN;obtain⟨A2,k2,rfl,_,_⟩:=hO.form;obtain⟨rfl,hbn⟩:=HBN.out L er hA;have bV3:=bV2.keep hO.tch id;have T2:=T1.trans hO.tch;have HOB:=Lib.hid (show∀g,(Value.slice A2 L.length k2).ownBlock=some g→z<g from fun g hg=>Nat.lt_of_lt_of_le bV2.lt (hO.own.lt g hg).1);have tO:=fun(w':World) (t9:Tch (fun k=>(Value.slice A2 L.length k2).ownBlock=some k) w2 w')=>T2.trans' t9 (fun i hi=>.inr (by have:=HOB.out i hi;have:=HZN.out;omega))
 have HD:=Lib.hid (z2h hO.own (by have:=hbn.len;omega) (othD b) 119 #[.pointer (some ⟨z,0,none⟩)] (enters_of Tryz.func119 (by kernel_rfl) rfl) (fun x w' t'=>moves1_any (HV.out w' (tO w' t')) F.hn (bV3.keep t' (fun e=>by have:=HOB.out z e;omega)) x.1 x.2.1 x.2.2.1 x.2.2.2.1 x.2.2.2.2.1 x.2.2.2.2.2));have HTO:=Lib.hid tO;have HA:=Lib.hid (show MovesAns b (c1,c2,c3,c4,c5,c6) (L.filter fun x=>!othD b x) 0 from⟨HRE.out,fun h9=>absurd rfl h9,fun _=>⟨L,hbn,rfl⟩⟩);clear f0 f1 f2 f3 f4 f5 v1 bV2 HBN hW1 hA T1 bV3 T2 tO hO hbn HRE;go_wp2_with fail;refine HD.out.mono ?_;rintro _ w9 ⟨u9,rfl,hr9,t9⟩;have HR9:=Lib.hid (hr9.weak (P':=fun g=>w.heap.size≤g) (fun g hg=>by have hg:W1.heap.size≤g:=hg;have:=HBS.out;have:=HZN.out;omega));have HT9:=Lib.hid (HTO.out _ t9);clear HD hr9 t9;go_wp2;go_ret2
 exact⟨_,_,_,rfl,HR9.out,HT9.out,HA.out⟩
end
end Go.Proofs.YtoegobjnjljegaaGreatDoor
namespace Go.Gk.V39
open Go.RowKit Go.Gk
def w1c (n:Nat):List Value:=[.int .u64 (n:Int)]
structure SetAt (TS TW:TypeId) (base:Nat) (w:World) (g:Nat) (ws:List Nat):Prop where
 ex:∃A c,Blk w g TS #[.slice A ws.length c,.bool true]∧w.ownsRow base TW 1 (.slice A ws.length c) ws.length (ws.flatMap w1c)∧∀k,(Value.slice A ws.length c).ownBlock=some k→k≠g
 lt:∀x∈ws,x<18446744073709551616
 few:ws.length≤1024
theorem mem_bit {ws:List Nat} {n:Nat} (hl:n/64<ws.length) (hx:ws[n/64]<18446744073709551616):(bits BinOp.and IntKind.u64 (((ws[n/64]:Nat):Int)/2^(n%64)) 1==1)=memW ws n:=by
 have e:((ws[n/64]:Nat):Int)/2^(n%64)=((ws[n/64]/2^(n%64):Nat):Int):=by simp
 have hd:ws[n/64]/2^(n%64)≤ws[n/64]:=Nat.div_le_self _ _;rw[e,and_one_u64 _ (Int.natCast_nonneg _) (by generalize ws[n/64]/2^(n%64)=q at *;omega)];unfold memW;rw[List.getD_eq_getElem?_getD,List.getElem?_eq_getElem hl,Option.getD_some,Nat.testBit_eq_decide_div_mod_eq,Bool.eq_iff_iff];simp only[beq_iff_eq,decide_eq_true_eq];generalize ws[n/64]/2^(n%64)=q;omega
theorem mem_no {ws:List Nat} {n:Nat} (hl:¬n/64<ws.length):memW ws n=false:=by
 unfold memW;rw[List.getD_eq_getElem?_getD,List.getElem?_eq_none (by omega)];simp
theorem w1c_at {ws:List Nat} {j:Nat} (h:j<ws.length):(ws.flatMap w1c)[j]?=some (.int .u64 ((ws[j]:Nat):Int)):=by
 have e:ws.flatMap w1c=ws.map fun(n:Nat)=>Value.int .u64 (n:Int):=by
  clear h;induction ws with
  |nil=>rfl
  |cons x r ih=>rw[List.flatMap_cons,ih];rfl
 rw[e,List.getElem?_map,List.getElem?_eq_getElem h];rfl
theorem w1c_map (ws:List Nat):ws.flatMap w1c=ws.map fun(n:Nat)=>Value.int .u64 (n:Int):=by
 induction ws with
 |nil=>rfl
 |cons x r ih=>rw[List.flatMap_cons,ih];rfl
theorem w1c_set (ws:List Nat) (j x:Nat):(ws.set j x).flatMap w1c=(ws.flatMap w1c).set j (.int .u64 (x:Int)):=by
 rw[w1c_map,w1c_map,List.map_set]
theorem or_word {x k:Nat} (hx:x<18446744073709551616) (hy:2^k<18446744073709551616):bits BinOp.or IntKind.u64 (x:Int) (IntKind.u64.wrap (2^k))=((x|||2^k:Nat):Int):=by
 rw[show(2:Int)^k=((2^k:Nat):Int) by simp,IntKind.wrap_u64,Int.emod_eq_of_lt (Int.natCast_nonneg _) (by omega)];exact bits_or_u64_nat x _ hx hy
def isW (T:TypeId) (w:World) (k:Nat):Prop:=∃cs fr,w.heap[k]?=some (.cells cs T fr)
def SetF (T:TypeId) (base g:Nat) (w:World) (k:Nat):Prop:=k=g∨(base≤k∧isW T w k)
theorem own_isW {w:World} {base n size k:Nat} {e:TypeId} {v:Value} {xs:List Value} (h:w.ownsRow base e size v n xs) (hk:v.ownBlock=some k):base≤k∧isW e w k:=by
 refine⟨(h.lt k hk).1,?_⟩
 rcases h.2 with⟨h3,_⟩|⟨g,cap,cur,h3,_,h4,_⟩
 ·rw[h3]at hk;cases hk
 ·rw[h3]at hk;have e1:g=k:=zaz hk;subst e1;exact⟨_,_,h4⟩
theorem SetAt.keep {TS TW:TypeId} {base:Nat} {w w':World} {g:Nat} {ws:List Nat} {F:Nat→Prop} (h:SetAt TS TW base w g ws) (t:Tch F w w') (hg:¬F g) (hf:∀k,base≤k→isW TW w k→¬F k):SetAt TS TW base w' g ws:=by
 obtain⟨A,c,hb,ho,hn⟩:=h.ex;exact⟨⟨A,c,hb.keep t hg,t.own ho fun k hk=>hf k (own_isW ho hk).1 (own_isW ho hk).2,hn⟩,h.lt,h.few⟩
def setLen (w:World) (g:Nat):Nat:=match w.cell? ⟨g,0,none⟩with
 |some (.slice _ n _)=>n
 |_=>0
theorem put_zero (ws:List Nat) (n:Nat):∀k,memW (ws++List.replicate k 0) n=memW ws n
 |0=>by simp
 |k+1=>by rw[List.replicate_succ',←List.append_assoc,mem_more,put_zero ws n k]
end Go.Gk.V39
namespace Go.Proofs.YtoegobjnjljegaaGreatDoor
open Go.RowKit Go.Gk Go.Gk.V39
theorem rowU:RowTy Tryz.prog 239 242 (.int .u64 0) 1 8:=⟨Tryz.underlying239,by kernel_rfl,rfl,by decide⟩
theorem bis_any {w:World} {g:Nat} {v:Value} (h:Blk w g 241 #[v,.bool true]):
 Calls Tryz.prog 148 #[.pointer (some ⟨g,0,none⟩)] w fun x w'=>x=.returned (.bool true)∧w=w':=by
 obtain⟨y0,y1⟩:=h.f2;clear h;go_enter Tryz.func148,Tryz.ntmps148;go_wp2;go_ret;exact⟨rfl,rfl⟩
theorem bwhy_any {w:World} {g:Nat} {v:Value} (h:Blk w g 241 #[v,.bool true]) (n:Int) (hn:0≤n∧n<65536):
 Calls Tryz.prog 145 #[.pointer (some ⟨g,0,none⟩),.int .i64 n] w fun x w'=>x=.returned (.int .i64 0)∧w=w':=by
 have HI:=Lib.hid (bis_any h);have h1:¬n<0:=by omega
 have h2:¬n≥65536:=by omega
 clear h;go_enter Tryz.func145,Tryz.ntmps145;go_wp2_with fail;refine HI.out.mono ?_;rintro _ _ ⟨rfl,rfl⟩;go_wp2;go_ret;exact⟨rfl,rfl⟩
theorem bhas_any {base:Nat} {w:World} {g:Nat} {ws:List Nat} (h:SetAt 241 242 base w g ws) (n:Nat) (hn:n<65536):
 Calls Tryz.prog 146 #[.pointer (some ⟨g,0,none⟩),.int .i64 (n:Int)] w fun x w'=>x=.returned (.bool (memW ws n))∧w=w':=by
 obtain⟨A,c,hb,hown,hne⟩:=h.ex;have HW:=Lib.hid (bwhy_any hb (n:Int) (by omega));obtain⟨y0,y1⟩:=hb.f2;have hn0:=znn n;by_cases hl:n/64<ws.length
 ·have hl':((n/64:Nat):Int)<(ws.length:Int):=by omega
  obtain⟨gw,rfl⟩:=ziq hown (by omega);have q0:=zk0 hown rfl (w1c_at hl);have HB:=Lib.hid (mem_bit hl (h.lt _ (List.getElem_mem _)));clear h hb hown hne;go_enter Tryz.func146,Tryz.ntmps146;go_wp2_with fail;refine HW.out.mono ?_;rintro _ _ ⟨rfl,rfl⟩;go_wp2;go_ret;exact⟨by rw[←HB.out];rfl,rfl⟩
 ·have hl':¬((n/64:Nat):Int)<(ws.length:Int):=by omega
  have HB:=Lib.hid (mem_no hl);clear h hb hown hne;go_enter Tryz.func146,Tryz.ntmps146;go_wp2_with fail;refine HW.out.mono ?_;rintro _ _ ⟨rfl,rfl⟩;go_wp2;go_ret;exact⟨by rw[←HB.out];rfl,rfl⟩
theorem bnew_any (w:World):Calls Tryz.prog 61 #[] w fun x w'=>∃g,x=.returned (.pointer (some ⟨g,0,none⟩))∧w.heap.size≤g∧g<w'.heap.size∧(∀base,SetAt 241 242 base w' g [])∧Tf w w':=by
 have tA:=tal w (.cells #[.slice none 0 0,.bool true] 241);have bA:=Blk.new w 241 #[.slice none 0 0,.bool true];go_enter Tryz.func61,Tryz.ntmps61;go_wp2;go_ret;exact⟨_,rfl,Nat.le_refl _,bA.lt,fun base=>⟨⟨none,0,bA,World.ownsRow_nil _ _ _ _,fun k hk=>by cases hk⟩,(fun x hx=>by cases hx),by simp⟩,tA⟩
theorem bput_any {base:Nat} {w:World} {g:Nat} {ws:List Nat} (h:SetAt 241 242 base w g ws) (hg:g<base) (hb:base≤w.heap.size) (n:Nat) (hn:n<65536):
 Calls Tryz.prog 62 #[.pointer (some ⟨g,0,none⟩),.int .i64 (n:Int)] w fun x w'=>∃(e:Int) (ws':List Nat),x=.returned (.int .i64 e)∧(e=0∨e=35)∧SetAt 241 242 base w' g ws'∧(∀j,memW ws' j=(memW ws j||decide (j=n)))∧Tch (SetF 242 base g w) w w':=by
 obtain⟨A,c,hb0,hown,hne⟩:=h.ex;have HW:=Lib.hid (bwhy_any hb0 (n:Int) (by omega));have HH:=Lib.hid (bhas_any h n hn)
 obtain⟨m,hm⟩:∃m,memW ws n=m:=⟨_,rfl⟩
 rw[hm]at HH;have HM:=Lib.hid hm;have hn0:=znn n;have HS:=Lib.hid h;clear hm
 cases m;rotate_left
 ·have HX:=Lib.hid (show∀j,memW ws j=(memW ws j||decide (j=n))from fun j=>by
   by_cases hj:j=n
   ·subst hj;rw[HM.out];rfl
   ·simp[hj])
  clear h hb0 hown hne HM;go_enter Tryz.func62,Tryz.ntmps62;go_wp2_with fail;refine HW.out.mono ?_;rintro _ _ ⟨rfl,rfl⟩;go_wp2_with fail;refine HH.out.mono ?_;rintro _ _ ⟨rfl,rfl⟩;go_wp2;(try simp only[Exit.inBlock,Exit.then]);(try rw[Exit.noGoto_ret]);go_ret;exact⟨35,ws,rfl,.inr rfl,HS.out,HX.out,Tch.refl _ _⟩
 have hob:=fun k hk=>own_isW hown (k:=k) hk
 have HLT:=Lib.hid h.lt;have HNB:=Lib.hid hb;clear h;go_enter Tryz.func62,Tryz.ntmps62;go_wp2_with fail;refine HW.out.mono ?_;rintro _ _ ⟨rfl,rfl⟩;go_wp2_with fail;refine HH.out.mono ?_;rintro _ _ ⟨rfl,rfl⟩;clear HW HH;go_wp2_with fail;go_loopw [] (fun wr=>∃(i:Nat) (A:Option Addr) (c:Nat),ws.length+i≤max ws.length (n/64+1)∧Blk wr g 241 #[.slice A (ws++List.replicate i 0).length c,.bool true]∧wr.ownsRow base 242 1 (.slice A (ws++List.replicate i 0).length c) (ws++List.replicate i 0).length ((ws++List.replicate i 0).flatMap w1c)∧(∀k,(Value.slice A (ws++List.replicate i 0).length c).ownBlock=some k→SetF 242 base g w k∨w.heap.size≤k)∧Tch (SetF 242 base g w) w wr) (fun wr=>n/64+1-setLen wr g)
 case atStart=>exact⟨0,A,c,by omega,by simpa using hb0,by simpa using hown,fun k hk=>.inl (.inr (hob k (by simpa using hk))),Tch.refl _ _⟩
 case round=>
  obtain⟨i,A,c,hi,hB,hO,hF,ht⟩:=hrel
  obtain⟨vs,hvs⟩:∃vs,ws++List.replicate i 0=vs:=⟨_,rfl⟩
  have hvl:vs.length=ws.length+i:=by rw[←hvs];simp
  rw[hvs]at hB hO hF;have hm1:setLen wr g=vs.length:=by unfold setLen;rw[hB.at0]
  have HM1:=Lib.hid hm1;have HVS:=Lib.hid hvs;have HVL:=Lib.hid hvl;have HI:=Lib.hid hi;have HF:=Lib.hid hF;have HT:=Lib.hid ht;have q0:=hB.at0;have f0:=hB.frozen 0;have hv0:=znn vs.length;clear hm1 hvs hvl hi hF ht;by_cases hlt:vs.length≤n/64
  ·have hlt':(vs.length:Int)≤((n/64:Nat):Int):=by omega
   have HLT':=Lib.hid hlt;have hsz:=hB.lt;have HB:=Lib.hid hB;have HOL:=Lib.hid hO;have tA:=tal wr (.cells #[.int .u64 0] 242);have hO1:=tA.own hO (fun _ _=>id);have hB1:=hB.keep tA id;have HNW:=Lib.hid (fun m9=>(Blk.new wr 242 #[.int .u64 0]).cell m9);clear hB hO;go_wp2_with (at_builtin;refine apd rowU hO1 (Go.Gk.Src.one (news:=[.int .u64 0]) rfl (fun m9 u9 hu9=>by rw[HNW.out m9];simpa using hu9)) (by simp;rfl) ?_ (h63:=by unfold maxLen;omega) (hbytes:=by omega);refine Hid.out ?_);refine Lib.hid ?_;intro v2 w2 ho2 hg2 hl2;have tg:Tch (fun k=>(Value.slice A vs.length c).ownBlock=some k) _ w2:=Tch.grown hg2 (fun k hk=>.inl hk);have hgk:(Value.slice A vs.length c).ownBlock≠some g:=fun e=>by have:=(HOL.out.lt g e).1;omega
   have hB2:=hB1.keep tg hgk;obtain⟨A2,c2,rfl,_,_⟩:=zac ho2;have q2:=hB2.at0;have f2:=hB2.frozen 0;have HH:=Lib.hid (⟨ho2,tg,hl2,hB2,hgk⟩:_∧_∧_∧_∧_);have htA:=HT.out.trans' (Exn.touch (F:=fun k=>(Value.slice A vs.length c).ownBlock=some k) tA) (fun k hk=>HF.out k hk);have HTA:=Lib.hid htA;clear ho2 hg2 hl2 hB2 q0 f0 tA hO1 hB1 HNW tg hgk htA;go_wp2;obtain⟨ho2,tg,hl2,hB2,hgk⟩:=HH.out;have hB3:=hB2.set_ 0 (.slice A2 (vs.length+1) c2);have tS:Tch (fun k=>k=g) w2 (w2.setCell ⟨g,0,none⟩ (.slice A2 (vs.length+1) c2)):=Tch.setCell (F:=fun k=>k=g) w2 (p:=⟨g,0,none⟩) (.inl rfl) _;have hsz2:=tg.size
   have ho2b:w2.ownsRow base 242 1 (.slice A2 (vs.length+1) c2) (vs.length+1) (vs.flatMap w1c++[.int .u64 0]):=zbk ho2 (fun k hk=>by
    rcases hl2 k hk with h9|h9
    ·exact(HOL.out.lt k h9).1
    ·have:=HT.out.size;have:=HNB.out;omega)
   have ho3:=tS.own ho2b (fun k hk e=>by have:=(ho2b.lt k hk).1;have e:k=g:=e;omega);have hnew:ws++List.replicate (i+1) 0=vs++[0]:=by rw[List.replicate_succ',←List.append_assoc,HVS.out]
   go_roundw
   case rel=>
    refine⟨i+1,A2,c2,?_,?_,?_,?_,?_⟩
    ·have:=HVL.out;have:=HLT'.out;omega
    ·rw[hnew];simpa using hB3
    ·rw[hnew];simpa[w1c]using ho3
    ·rw[hnew];intro k hk;rcases hl2 k (by simpa using hk)with h9|h9
     ·exact HF.out k h9
     ·exact .inr (by have:=HT.out.size;omega)
    ·exact(HTA.out.trans' tg (fun k hk=>HF.out k hk)).trans (tS.mono fun k _ hk=>.inl hk)
   case measure=>
    have h9:setLen (w2.setCell ⟨g,0,none⟩ (.slice A2 (vs.length+1) c2)) g=vs.length+1:=by
     unfold setLen;rw[show(w2.setCell ⟨g,0,none⟩ (.slice A2 (vs.length+1) c2)).cell? ⟨g,0,none⟩=some (.slice A2 (vs.length+1) c2) by simpa using hB3.at0]
    rw[h9,HM1.out];have:=HLT'.out;omega
  ·have hlt':¬(vs.length:Int)≤((n/64:Nat):Int):=by omega
   have hln:n/64<vs.length:=by omega
   obtain⟨gw,rfl⟩:=ziq hO (by omega);have k0:=zk0 hO rfl (w1c_at hln);have X0:=wc0 q0;have X1:=wc0 k0;have hll:((n/64:Nat):Int)<(vs.length:Int):=by omega
   go_wp2_with fail;refine zai (fun _=>False) [] 11 [] [] trivial ?_;intro bef _;iterate 11 (refine zbt ?_;(try simp only[zaw]))
   refine za6 ?_;intro w7 hr _ _;have tr:=(Tch.drew (fun _=>False) wr).trans hr;have hB7:=hB.keep tr id;have hO7:=tr.own hO (fun _ _=>id);have k7:=zk0 hO7 rfl (w1c_at hln)
   have f7:w7.frozen? ⟨gw,n/64,none⟩=false:=by
    rcases hO7.2 with⟨h9,_⟩|⟨g',cap,cur,hv,_,hg9,_⟩
    ·cases h9
    ·injection hv with e1;injection e1 with e1;injection e1 with e1;subst e1;simp[World.frozen?,hg9]
   have HH:=Lib.hid (⟨tr,hB7,hO7⟩:_∧_∧_);have HO3:=Lib.hid hln;clear X0 X1 tr hB7 hO7 hB hO hr;go_wp2;go_ret;obtain⟨tr,hB7,hO7⟩:=HH.out
   have hlv:∀x∈vs,x<18446744073709551616:=by
    rw[←HVS.out];intro x hx;rcases List.mem_append.1 hx with h9|h9
    ·exact HLT.out x h9
    ·rw[List.eq_of_mem_replicate h9];decide
   have hv64:=hlv _ (List.getElem_mem HO3.out)
   have hk64:2^(n%64)<18446744073709551616:=by
    have h9:2^(n%64)≤2^63:=Nat.pow_le_pow_right (by decide) (by omega);have h8:(2:Nat)^63<18446744073709551616:=by decide
    omega
   rw[or_word hv64 hk64];refine⟨0,rfl,.inl rfl,vs.set (n/64) (vs[n/64]'HO3.out|||2^(n%64)),⟨⟨some ⟨gw,0,none⟩,c,?_,?_,?_⟩,?_,?_⟩,fun j=>?_,?_⟩
   ·rw[List.length_set];exact hB7.keep (Tch.setCell (F:=fun k=>k=gw) w7 (p:=⟨gw,n/64,none⟩) (.inl rfl) _) (fun e=>by have:=(hO7.lt gw rfl).1;have e:g=gw:=e;omega)
   ·have h9:=zw6 hO7 (n/64) (.int .u64 ((vs[n/64]'HO3.out|||2^(n%64):Nat):Int));rw[w1c_set,List.length_set];exact h9
   ·intro k hk e;rw[List.length_set]at hk;have:=zaz hk;have:=(hO7.lt gw rfl).1;omega
   ·intro x hx;rcases List.mem_or_eq_of_mem_set hx with h9|rfl
    ·exact hlv x h9
    ·exact Nat.or_lt_two_pow (n:=64) hv64 hk64
   ·rw[List.length_set];have:=HVL.out;have:=HI.out;have:=HS.out.few;omega
   ·have h9:=mem_put (ws:=vs) (n:=n) HO3.out j;rw[List.getD_eq_getElem?_getD,List.getElem?_eq_getElem HO3.out,Option.getD_some]at h9;rw[h9,←HVS.out,put_zero]
   ·refine(HT.out.trans' (Exn.touch (F:=SetF 242 base g w) tr) (fun k hk=>.inl hk)).trans' (Tch.setCell (F:=fun k=>k=gw) w7 (p:=⟨gw,n/64,none⟩) (.inl rfl) _) (fun k hk=>?_);have hk:k=gw:=hk;subst hk;exact HF.out k rfl
end Go.Proofs.YtoegobjnjljegaaGreatDoor
namespace Go.Gk.V39
open Go.RowKit Go.Gk
theorem w1c_one (ws:List Nat):∀u∈ws.flatMap w1c,u.oneCell'=true:=fun u hu=>by
 obtain⟨x,_,hx⟩:=List.mem_flatMap.1 hu;simp[w1c]at hx;subst hx;rfl
theorem low_bit {m:Nat} (h0:m≠0) (h:m<18446744073709551616):∃q,m=2^Lib.ctz 64 m*(2*q+1)∧Lib.ctz 64 m<64:=by
 obtain⟨q,h1,h2⟩:=Lib.ctzFrom_spec 64 m (by omega) (by simpa using h);have e:Lib.ctz 64 m=Lib.ctzFrom 64 m:=by simp[Lib.ctz,h0]
 rw[e];exact⟨q,h1,h2⟩
theorem bits_step {m:Nat} (h0:m≠0) (h:m<18446744073709551616):Lib.ctz 64 m<64∧m&&&(m-1)<m∧bitsOf m=Lib.ctz 64 m::bitsOf (m&&&(m-1)):=by
 obtain⟨q,h1,h2⟩:=low_bit h0 h;generalize Lib.ctz 64 m=k at *;subst h1;have hp:=Nat.two_pow_pos k;rw[low_off];refine⟨h2,?_,bits_low h2⟩;rw[Nat.mul_add,Nat.mul_one];omega
theorem Tch.grown0 {w w':World} (t:Tf w w'):w.grownBy w' none:=⟨t.os,t.tape,t.output,t.size,fun k hk _=>t.block k hk id⟩
theorem tab_lt {g:Nat} {w:World} (h:Tab64 g w):g<w.heap.size:=by
 have h0:=h 0 (by decide);false_or_by_contra
 rename_i h9
 have h1:w.heap[g]?=none:=Array.getElem?_eq_none (by omega);simp[World.cell?,h1]at h0
theorem nums_next {ws:List Nat} {i:Nat} (h:i<ws.length):numsTo ws (i+1)=numsTo ws i++(bitsOf ws[i]).map fun b=>64*i+b:=by
 unfold numsTo;rw[List.range_succ,List.flatMap_append];simp[List.getD_eq_getElem?_getD,List.getElem?_eq_getElem h]
theorem nums_pre (ws:List Nat):∀k i,k+i=ws.length→numsTo ws k<+:numsOf ws
 |k,0,h=>by rw[Nat.add_zero]at h;subst h;exact List.prefix_rfl
 |k,i+1,h=>by
  refine List.IsPrefix.trans ?_ (nums_pre ws (k+1) i (by omega));rw[nums_next (by omega)];exact List.prefix_append _ _
theorem nums_at {ws:List Nat} {i k:Nat} {dn rs:List Nat} (h:i<ws.length) (e:bitsOf ws[i]=dn++k::rs):(numsTo ws i++dn.map fun b=>64*i+b).length<(numsOf ws).length∧(numsTo ws i++(dn.map fun b=>64*i+b)++[64*i+k])<+:numsOf ws:=by
 have h1:=nums_pre ws (i+1) (ws.length-(i+1)) (by omega);rw[nums_next h,e,List.map_append,List.map_cons]at h1
 have h2:(numsTo ws i++(dn.map fun b=>64*i+b)++[64*i+k])<+:numsOf ws:=by
  refine List.IsPrefix.trans ?_ h1;rw[List.append_assoc];refine(List.prefix_append_right_inj _).2 ((List.prefix_append_right_inj _).2 ?_);exact⟨_,rfl⟩
 have h3:=h2.length_le;rw[List.length_append,List.length_singleton]at h3;exact⟨by omega,h2⟩
theorem and_word {m:Nat} (h0:m≠0) (h:m<18446744073709551616):bits BinOp.and IntKind.u64 (m:Int) ((m:Int)-1)=((m&&&(m-1):Nat):Int):=by
 rw[show(m:Int)-1=((m-1:Nat):Int) by omega];exact bits_and_u64_nat m (m-1) h (by omega)
theorem nums_all (ws:List Nat):(numsOf ws).length≤64*ws.length:=by
 unfold numsOf numsTo;rw[List.length_flatMap]
 have:∀l:List Nat,(l.map fun i=>((bitsOf (ws.getD i 0)).map fun b=>64*i+b).length).sum≤64*l.length:=fun l=>by
  induction l with
  |nil=>simp
  |cons x r ih=>
   have h:(bitsOf (ws.getD x 0)).length≤64:=by
    unfold bitsOf;exact Nat.le_trans (List.length_filter_le _ _) (by simp)
   simp only[List.map_cons,List.sum_cons,List.length_map,List.length_cons]at ih⊢;omega
 simpa using this (List.range ws.length)
end Go.Gk.V39
namespace Go.Proofs.YtoegobjnjljegaaGreatDoor
open Go.RowKit Go.Gk Go.Gk.V39 Go.Shelf
theorem cloneW_any {base:Nat} {w:World} {v:Value} {ws:List Nat} (h:w.ownsRow base 242 1 v ws.length (ws.flatMap w1c)) (hn:ws.length≤100000):
 Calls Tryz.prog 149 #[v] w fun e w'=>∃u,e=.returned u∧Outs w1c 1 242 w w' u ws:=by
 have hl:zae w1c 1 (fun _=>True) w v ws:=Row.own h (fun _ _=>trivial);obtain⟨A,c,rfl,hc1,hc2⟩:=hl.form;have hq:∀(w:World) (a:Option Addr) (n c n' c':Nat),(binOp .eql 239 (.slice a n c) (.slice none n' c')).run Tryz.prog w=.ok (.bool a.isNone) w:=fun w a n c n' c'=>Lib.run_eql_slice_nil w _ _ a n c n' c' Tryz.underlying239
 cases A with
 |none=>
  obtain⟨h0,rfl⟩:=hl.src.nil rfl;obtain rfl:ws=[]:=List.eq_nil_of_length_eq_zero h0;clear hl h;go_enter Tryz.func149,Tryz.ntmps149;go_wp2;go_ret;exact⟨_,rfl,Outs.start _ _ _ (Tch.refl _ _)⟩
 |some a=>
  have tw:=tal w (.cells #[] 242);have hs:=hl.src.keep tw (fun _ _=>id);have h1':=w1c_one ws;go_enter Tryz.func149,Tryz.ntmps149;go_wp2_with (at_builtin;refine apd rowU (zel w 242 1 0 #[] (Nat.zero_le _) rfl) hs h1' ?_;intro v2 w2 ho2 hg2 hl2);go_ret;rw[List.nil_append,Nat.zero_add]at ho2;refine⟨_,rfl,zbk ho2 fun g hg=>?_,tw.trans' (Tch.grown (F:=fun k=>w.heap.size≤k) hg2 fun k hk=>.inl (by have:=zaz hk;omega)) fun i hi=>.inr hi⟩;rcases hl2 g hg with h1|h1
  ·have:=zaz h1;omega
  ·simp at h1;omega
theorem beach_in (F:Fence) (n:Nat) (h1:F.fn 63) (hro:F.round=none) (g:Nat) (w:World):
 CallsIn F n Tryz.prog 63 #[.pointer (some ⟨g,0,none⟩)] w fun e w'=>e=.returned (.func (.func 147) #[] #[.pointer (some ⟨w.heap.size,0,none⟩)])∧w'=w.alloc (.cells #[.pointer (some ⟨g,0,none⟩)] 140):=by
 refine callsIn_of_wp Tryz.func63 rfl h1 ?_ hro;simp only[Tryz.ntmps63,List.size_toArray,List.length_cons,List.length_nil,Nat.reduceAdd,Nat.reduceSub,Array.replicate_succ,Array.replicate_zero,List.push_toArray,List.append_toArray,List.nil_append,List.cons_append];gi_wp2
 go_ret;exact⟨rfl,rfl⟩
def KpW (n₀:Nat) (W W':World):Prop:=Below n₀ W W'∧∀k cs,Blk W k 242 cs→Blk W' k 242 cs
theorem beach1_in (n:Nat) (hn:1≤n) (l Bm n₀ g base:Nat) {ws:List Nat} (hwl:ws.length≤1024) (J Jx:List Nat→World→Prop)
 (W:World) (hn0:n₀≤W.heap.size) (hJ:AbidesFrom W.heap.size J)
 (hY:∀pre x W1,J pre W1→pre.length<(numsOf ws).length→YieldAt Fence.wide (n-1) Tryz.prog l #[.int .i64 ((x:Nat):Int)] W1 fun e W'=>
  (e=.returned (.bool true)∧J (pre++[x]) W'∧KpW n₀ W1 W')∨(e=.returned (.bool false)∧Jx (pre++[x]) W'))
 (hBm:W.cell? ⟨Bm,0,none⟩=some (.pointer (some ⟨g,0,none⟩))) (hs:SetAt 241 242 base W g ws) (hT:∀W',Below n₀ W W'→Tab64 0 W') (h0:J [] W):
 CallsIn Fence.wide n Tryz.prog 147 #[.func (.yield l) #[] #[],.pointer (some ⟨Bm,0,none⟩)] W fun e W'=>(∃v,e=.returned v)∧
  ((∃ys,ys=numsOf ws∧J ys W')∨(∃pre,pre<+:numsOf ws∧Jx pre W')):=by
 obtain⟨A,c,hb,hown,_⟩:=hs.ex;have HIS:=Lib.hid (bis_any hb);have HCL:=Lib.hid (cloneW_any hown (by omega));have q0:=hb.at0;have hlt:=hs.lt;refine callsIn_of_wp Tryz.func147 rfl trivial ?_ rfl;simp only[Tryz.ntmps147,List.size_toArray,List.length_cons,List.length_nil,Nat.reduceAdd,Nat.reduceSub,Array.replicate_succ,Array.replicate_zero,List.push_toArray,List.append_toArray,List.nil_append,List.cons_append]
 gi_wp2_with (first
  |(refine⟨trivial,?_⟩;gi_at_call 148;refine(callsIn_wide.2 HIS.out).mono ?_;rintro e w' ⟨rfl,rfl⟩)
  |(refine⟨trivial,?_⟩;gi_at_call 149;refine(callsIn_wide.2 HCL.out).mono ?_;rintro e w1 ⟨u,rfl,hO⟩;obtain⟨A1,c1,rfl,_,_⟩:=hO.form))
 obtain⟨gw,cs,hcs⟩:∃gw cs,0<ws.length→A1=some ⟨gw,0,none⟩∧Blk w1 gw 242 cs∧∀j (h:j<ws.length),cs[j]?=some (.int .u64 ((ws[j]:Nat):Int)):=by
  by_cases hl:0<ws.length
  ·obtain⟨gw,rfl⟩:=ziq hO.own hl;have hc:=fun j (h:j<ws.length)=>zk0 hO.own rfl (w1c_at h)
   rcases hO.own.2 with⟨h3,_⟩|⟨g',cap,cur,h3,_,h4,_⟩
   ·cases h3
   ·injection h3 with e1;injection e1 with e1;injection e1 with e1;subst e1;exact⟨gw,cur,fun _=>⟨rfl,h4,fun j h=>by rw[←Blk.cell (show Blk w1 gw 242 cur from h4) j];exact hc j h⟩⟩
  ·exact⟨0,#[],fun h=>absurd h hl⟩
 have hJ1:J (numsTo ws 0) w1:=hJ [] W w1 none h0 (Tch.grown0 hO.tch) (fun r e=>by cases e)
 have hb1:Below n₀ W w1:=⟨hO.tch.os,hO.tch.tape,hO.tch.output,hO.tch.size,fun k hk=>hO.tch.block k (by omega) id⟩
 have HCS:=Lib.hid hcs;have HLT:=Lib.hid hlt;have HT:=Lib.hid hT;clear hcs hlt hT HIS HCL q0 hO h0 hJ hs hb hown hBm;gi_loopw [14] (fun x wr=>∃i:Nat,i≤ws.length∧x=.int .i64 (i:Int)∧J (numsTo ws i) wr∧Below n₀ W wr∧(0<ws.length→Blk wr gw 242 cs)) (fun x _=>ws.length-(intOf x).toNat)
 case atStart=>exact⟨0,Nat.zero_le _,rfl,hJ1,hb1,fun h=>(HCS.out h).2.1⟩
 case round=>
  obtain⟨i,hi,rfl,hJi,hBi,hGi⟩:=hrel;have hi0:=znn i;by_cases hlt:i<ws.length
  ·have hlt':(i:Int)<(ws.length:Int):=by omega
   obtain⟨rfl,_,hcj⟩:=HCS.out (by omega);have hg:=hGi (by omega);have k0:wr.cell? ⟨gw,i,none⟩=some (.int .u64 ((ws[i]:Nat):Int)):=by rw[hg.cell i];exact hcj i hlt
   have HX:=Lib.hid (HLT.out _ (List.getElem_mem hlt));have HAT:=Lib.hid (fun k dn rs=>@nums_at ws i k dn rs hlt);have HNX:=Lib.hid (nums_next hlt);generalize ws[i]=wi at *;clear hcj hGi;gi_wp2
   gi_loopw [4] (fun x wr=>∃m:Nat,x=.int .u64 (m:Int)∧m<18446744073709551616∧(∃dn,bitsOf wi=dn++bitsOf m∧J (numsTo ws i++dn.map fun b=>64*i+b) wr)∧Below n₀ W wr∧Blk wr gw 242 cs) (fun x _=>(intOf x).toNat)
   case atStart=>exact⟨wi,rfl,HX.out,⟨[],rfl,by simpa using hJi⟩,hBi,hg⟩
   case round=>
    obtain⟨m,rfl,hm,⟨dn,hdn,hJm⟩,hBm,hgm⟩:=hrel;have hm0:=znn m;by_cases h0:m=0
    ·subst h0;rw[bits_none,List.append_nil]at hdn;rw[←hdn,←HNX.out]at hJm;have HH:=Lib.hid (⟨hJm,hBm,hgm⟩:_∧_∧_);clear hJm hBm hgm hdn hJi hBi hg;gi_wp2
     go_roundw
     case rel=>exact⟨i+1,by omega,by go_num,HH.out.1,HH.out.2.1,fun _=>HH.out.2.2⟩
     case measure=>simp[intOf];omega
    ·have h0':((m:Int) !=0)=true:=by simpa using h0
     have HTZ:=Lib.hid (tz64_any m (by omega) hm wr (HT.out wr hBm));obtain⟨hk,hlow,hbs⟩:=bits_step h0 hm;have HAW:=Lib.hid (and_word h0 hm);rw[hbs]at hdn;obtain⟨hpl,hpp⟩:=HAT.out _ _ _ hdn;have hy:=hY _ (64*i+Lib.ctz 64 m) wr hJm hpl;generalize Lib.ctz 64 m=k at *;obtain⟨fn,tmps,assign,body,hy,hR⟩:=hy;have hcast:((64*i+k:Nat):Int)=64*(i:Int)+(k:Int):=by omega
     rw[hcast]at hy;have hk0:=znn k;have HMM:=Lib.hid (⟨hdn,hpp,hlow⟩:_∧_∧_);clear hbs hdn hpp hpl hlow hcast;gi_wp2_with (refine⟨trivial,?_⟩;gi_at_call 150;refine(callsIn_wide.2 HTZ.out).mono ?_;rintro e w' ⟨rfl,rfl⟩)
     refine hR.mono ?_;rintro e W3 (⟨rfl,hJ3,hk3⟩|⟨rfl,hJx3⟩)
     ·obtain⟨hdn,hpp,hlow⟩:=HMM.out;have hJ4:J (numsTo ws i++(dn++[k]).map fun b=>64*i+b) W3:=by rw[List.map_append,←List.append_assoc];exact hJ3
      have HH:=Lib.hid (⟨hJ4,hBm.trans hk3.1,hk3.2 _ _ hgm,hdn,hlow⟩:_∧_∧_∧_∧_);clear hJ3 hk3 hJ4 hBm hgm hdn hpp hlow hJm HMM hJi hBi hg;gi_wp2
      go_roundw
      case rel=>exact⟨m&&&(m-1),by rw[HAW.out],by have:=HH.out.2.2.2.2;omega,⟨dn++[k],by rw[HH.out.2.2.2.1];simp,HH.out.1⟩,HH.out.2.1,HH.out.2.2.1⟩
      case measure=>rw[HAW.out];have:=HH.out.2.2.2.2;simp[intOf];omega
     ·gi_wp2
      refine bodyPost_ret (results_none rfl _ _ _) rfl ?_;exact⟨⟨_,rfl⟩,.inr ⟨_,HMM.out.2.1,hJx3⟩⟩
  ·obtain rfl:i=ws.length:=by omega
   have hlt':¬(ws.length:Int)<(ws.length:Int):=by omega
   gi_wp2
   go_end0
   exact⟨⟨_,rfl⟩,.inl hJi⟩
theorem beach_stops (n:Nat) (hn:1≤n) (Bm n₀ g base:Nat) {ws:List Nat} (hwl:ws.length≤1024) (w:World) (hBm:Bm<w.heap.size) (hn0:n₀≤w.heap.size) (hc:w.cell? ⟨Bm,0,none⟩=some (.pointer (some ⟨g,0,none⟩))) (hs:SetAt 241 242 base w g ws) (hT:Tab64 0 w) (ht:0<n₀):
 SeqStopsK Fence.wide n Tryz.prog 147 #[.pointer (some ⟨Bm,0,none⟩)] (fun x:Nat=> #[Value.int .i64 (x:Int)]) (KpW n₀) (fun ys=>ys=numsOf ws) (fun pre=>pre<+:numsOf ws) (numsOf ws).length w:=fun l J Jx W hW hJa _ hY h0=>
 beach1_in n hn l Bm n₀ g base hwl J Jx W (Nat.le_trans hn0 hW.size) hJa hY ((hW.cell (p:=⟨Bm,0,none⟩) hBm).trans hc)
  (hs.keep (Tch.of_low hW hW.size) (by obtain⟨_,_,hb,_⟩:=hs.ex;have:=hb.lt;omega) (fun k _ h=>by obtain⟨_,_,h9⟩:=h;have:=(Array.getElem?_eq_some_iff.1 h9).1;omega))
  (fun W' h9 j hj=>((h9.cell (p:=⟨0,j,none⟩) ht).trans (hW.cell (p:=⟨0,j,none⟩) (by show 0<w.heap.size;omega))).trans (hT j hj)) h0
end Go.Proofs.YtoegobjnjljegaaGreatDoor
namespace Go.Gk.V39
open Go.Gk.V37 Go.Gk.V33 Go.Gk.V38 Go.RowKit
def LinesAns (b:Bks) (c:Rt6) (l:List Int) (er:Int):Prop:=er=za3 c b.ents.length b.accs.length∧(er≠0→l=[])∧(er=0→l.Pairwise (· < ·)∧∀x,x∈l↔Feeds b c x)
theorem lines_bad {b:Bks} {c:Rt6} {er:Int} (h:MovesAns b c [] er) (h0:er≠0):LinesAns b c [] er:=⟨h.1,fun _=>rfl,fun h9=>absurd h9 h0⟩
def numI (ws:List Nat):List Int:=(numsOf ws).map fun(n:Nat)=>(n:Int)
theorem numI_len (ws:List Nat):(numI ws).length=(numsOf ws).length:=by simp[numI]
theorem numI_flat (ws:List Nat):(numI ws).flatMap zby=(numsOf ws).flatMap fun(n:Nat)=>[Value.int .i64 (n:Int)]:=by
 unfold numI;induction numsOf ws with
 |nil=>rfl
 |cons x r ih=>rw[List.map_cons,List.flatMap_cons,List.flatMap_cons,ih];rfl
theorem lines_ok {b:Bks} {c:Rt6} {L:List Rt6} (h:MovesAns b c L 0) {ws:List Nat} (hw:∀n,memW ws n=true↔∃m∈L,((n:Nat):Int)∈zoh b m):LinesAns b c (numI ws) 0:=by
 obtain⟨h1,_,h3⟩:=h;obtain⟨N,hN,rfl⟩:=h3 rfl;refine⟨h1,fun h9=>absurd rfl h9,fun _=>⟨?_,fun x=>?_⟩⟩
 ·unfold numI;rw[List.pairwise_map];exact(nums_lt ws).imp fun h=>by omega
 ·unfold numI;rw[List.mem_map];constructor
  ·rintro⟨n,hn,rfl⟩;obtain⟨m,hm,hx⟩:=(hw n).1 (nums_mem.1 hn);exact⟨m,(hN.mem m).1 (List.mem_filter.1 hm).1,hx⟩
  ·rintro⟨d,hd,hx⟩;obtain⟨n,_,rfl,_⟩:=ids_mem hx;refine⟨n+1,nums_mem.2 ((hw (n+1)).2 ⟨d,List.mem_filter.2 ⟨(hN.mem d).2 hd,?_⟩,by simpa using hx⟩),by simp⟩;unfold zoh at hx;split at hx
   ·next hq=>
    unfold othD;simp[hq.1,hq.2.2]
   ·cases hx
theorem ids_len (b:Bks) (d:Rt6) (hpl:(zay b.entries).length≤3000):(zoh b d).length≤3000:=by
 unfold zoh;split
 ·rw[List.length_map];exact Nat.le_trans (List.length_filter_le _ _) (Nat.le_trans (zfx _ _) hpl)
 ·simp
theorem ids_few {b:Bks} {d:Rt6} {x:Int} (h:x∈zoh b d) (hpl:(zay b.entries).length≤3000):∃n:Nat,n<65536∧x=(n:Int):=by
 obtain⟨n,hn,rfl,_⟩:=ids_mem h;exact⟨n+1,by omega,by simp⟩
end Go.Gk.V39
namespace Go.Gk
open Go.RowKit
theorem wpListIn_lenmap {κ:Type} {F:Fence} {n:Nat} {P:Program} {K:TypeId} {enc:κ→Value} {ops:Array Oper} {rest:List Oper} {o:Oper} {a:Act} {w:World} {Q:Exit→Act→World→Prop} (hg:o.guard=none) (m:Operand) (t:TypeId) (hop:o.op=Op.call {callee:=Callee.builtin Builtin.len,args:= #[m],argTypes:= #[t]})
 (e:TypeId) (ht:P.underlying t=some (.map K e)) {b:Nat} {l:List (κ×Value)} (hm:a.eval m=.map (some b)) (h:MapB enc w b l) (hK:wpListIn F n P ops Q rest (a.put o.dst (.int .i64 (l.length:Int))) w):wpListIn F n P ops Q (o::rest) a w:=by
 refine wpListIn_plain hg fun K' hK'=>?_
 obtain⟨es,c,h1,h2,_⟩:=h;have hl:es.size=l.length:=by have:=congrArg List.length h2;simpa using this
 have hrun:(Builtin.len_ #[t] o.type #[.map (some b)]).run P w=.ok (.int .i64 (l.length:Int)) w:=by
  simp[Builtin.len_,run_underlying ht,MapKept.run_getObj_map h1,goInt,Result.andThen,hl]
 unfold Oper.wpIn;refine⟨?_,?_⟩
 ·simp[Oper.about,hop,resolve,Target.leads,Sem.run_pure]
 ·rw[Oper.semAt_plain F _ _ (by rw[hop];intro c hc';cases hc')];simp[execOp,hop,resolve,invoke,builtin,hm,hrun,Result.andThen];exact hK' _ _ hK
end Go.Gk
namespace Go.Proofs.YtoegobjnjljegaaGreatDoor
open Go.RowKit Go.Gk Go.Gk.V33 Go.Gk.V37 Go.Gk.V38 Go.Gk.V39 Go.Shelf
attribute [local go_sem] Oper.semAt_some
section
variable {w:World} {bv bi B t mr mp:Nat} {e a s r l n lv:Value} {fs:List Value} {b:Bks} {us:List (Ent×Value)}
theorem lines39_any (h:Vw w bv bi B t mr mp e a s r l n lv fs b us) (F:RuleFacts b) (hpl:(zay b.entries).length≤3000) (hE:b.ents.length≤6) (hA:b.accs.length≤9) (hT:Tab64 0 w) (c1 c2 c3 c4 c5 c6:Int) (hp3:c4≤3):
 Calls Tryz.prog 14 #[.pointer (some ⟨bv,0,none⟩),.agg #[.int .i64 c1,.int .i64 c2,.int .i64 c3,.int .i64 c4,.int .i64 c5,.int .i64 c6]] w fun x w'=>∃(l:List Int) (u:Value) (er:Int),x=.returned (.tuple #[u,.int .i64 er])∧Outs zby 1 3 w w' u l∧LinesAns b (c1,c2,c3,c4,c5,c6) l er:=by
 have tA:=tal w (.cells #[.int .i64 c1,.int .i64 c2,.int .i64 c3,.int .i64 c4,.int .i64 c5,.int .i64 c6] 31);have bC:=Blk.new w 31 #[.int .i64 c1,.int .i64 c2,.int .i64 c3,.int .i64 c4,.int .i64 c5,.int .i64 c6];obtain⟨g0,g1,g2,g3,g4,g5⟩:=bC.f6;have HM:=Lib.hid (moves_any (h.keep tA) F hpl hE hA (hT.keep tA) c1 c2 c3 c4 c5 c6 hp3);have HV:=Lib.hid (fun w' (t9:Tf w w')=>h.keep t9);have HTT:=Lib.hid (fun w' (t9:Tf w w')=>hT.keep t9);have htab:=tab_lt hT;have HPL:=Lib.hid hpl;have hmm:=@run_makeMap Tryz.prog;have HF:=Lib.hid (⟨F.hn,F.hp⟩:_∧_);clear h hT bC;refine(callsIn_wide (n:=6)).1 ?_;refine callsIn_of_wp_marks Tryz.func14 rfl trivial ?_ rfl;simp only[Tryz.ntmps14,List.size_toArray,List.length_cons,List.length_nil,Nat.reduceAdd,Nat.reduceSub,Array.replicate_succ,Array.replicate_zero,List.push_toArray,List.append_toArray,List.nil_append,List.cons_append];gi_wp2_with (refine⟨trivial,?_⟩;gi_at_call 52;refine(callsIn_wide.2 HM.out).mono ?_;rintro e w1 ⟨L,u,er,rfl,hr1,t1,hA1⟩;refine Hid.out ?_)
 refine Lib.hid ?_;have T1:=tA.trans t1;clear HM g0 g1 g2 g3 g4 g5 hmm;by_cases her:er=0
 rotate_left
 ·have hx:(er !=0)=true:=by simpa using her
  obtain rfl:=hA1.2.1 her;have HA:=Lib.hid (lines_bad hA1 her);have HT1:=Lib.hid T1;clear her hA1 hr1 tA t1 T1;gi_wp2
  refine⟨_,results_tmp2 rfl _ _ _,?_⟩;exact⟨[],_,_,rfl,Outs.start _ _ _ HT1.out,HA.out⟩
 subst her
 have hLl:L.length≤20000:=by
  obtain⟨N,hN,rfl⟩:=hA1.2.2 rfl;exact Nat.le_trans (List.length_filter_le _ _) hN.len
 have HA1:=Lib.hid hA1;have HBN:=Lib.hid (bnew_any w1);have hmm:=@run_makeMap Tryz.prog;obtain⟨AL,kL,rfl,_,_⟩:=hr1.form;clear hA1;gi_wp2_with (refine⟨trivial,?_⟩;gi_at_call 61;refine(callsIn_wide.2 HBN.out).mono ?_;rintro e w2 ⟨g,rfl,hg,hgl,hS,t2⟩;refine Hid.out ?_)
 refine Lib.hid ?_;clear HBN;have tM:=tal w2 (.map #[] 0);have hM:=MapB.new zmi w2;have hS3:=(hS (w2.heap.size+1)).keep tM id (fun _ _ _=>id);have t3:=t2.trans tM;have hz3:(w2.alloc (.map #[] 0)).heap.size=w2.heap.size+1:=by simp
 clear hS tM t2;gi_wp2
 generalize w2.alloc (.map #[] 0)=w3 at *;generalize w2.heap.size=mb at *;have HLR:=Lib.hid (fun wr (ht:Tf w1 wr)=>hr1.keep ht);have HT1:=Lib.hid T1;clear hmm hr1 tA t1 T1;gi_loopw [30] (fun x wr=>∃(i:Nat) (ws:List Nat),i≤L.length∧x=.int .i64 (i:Int)∧SetAt 241 242 (mb+1) wr g ws∧(∀n,memW ws n=true↔∃m∈L.take i,((n:Nat):Int)∈zoh b m)∧MapB zmi wr mb []∧Tf w1 wr∧w3.heap.size≤wr.heap.size) (fun x _=>L.length-(intOf x).toNat)
 case atStart=>exact⟨0,[],Nat.zero_le _,rfl,hS3,fun n=>by simp[memW],hM,t3,Nat.le_refl _⟩
 case round=>
  obtain⟨i,ws,hi,rfl,hSi,hmi,hMi,hti,hzi⟩:=hrel;have hi0:=znn i;by_cases hlt:i<L.length
  ·have hlt':(i:Int)<(L.length:Int):=by omega
   have hl9:=HLR.out wr hti;obtain⟨gl,ol,rfl⟩:=hl9.head (by omega);obtain⟨q0,q1,q2,q3,q4,q5⟩:=Row.six hl9 zd3 hlt rfl;have HNX:=Lib.hid (List.take_succ_eq_append_getElem hlt);have HIN:=Lib.hid (List.getElem_mem hlt);generalize L[i]=mm at *;obtain⟨m1,m2,m3,m4,m5,m6⟩:=mm;simp only at q0 q1 q2 q3 q4 q5;have tC:=tal wr (.cells #[.int .i64 m1,.int .i64 m2,.int .i64 m3,.int .i64 m4,.int .i64 m5,.int .i64 m6] 31);have bz:=Blk.new wr 31 #[.int .i64 m1,.int .i64 m2,.int .i64 m3,.int .i64 m4,.int .i64 m5,.int .i64 m6];obtain⟨z0,z1,z2,z3,z4,z5⟩:=bz.f6;have hSA:=hSi.keep tC id (fun _ _ _=>id);have hMA:=hMi.keep tC id;have htA:=hti.trans tC;have HZA:=Lib.hid (Nat.le_trans hzi tC.size);have HID:=Lib.hid (zlw (HV.out _ (HT1.out.trans htA)) HF.out.1 HF.out.2 m1 m2 m3 m4 m5 m6);have HLE:=Lib.hid (show(zoh b (m1,m2,m3,m4,m5,m6)).length≤3000 from ids_len b _ HPL.out);clear hl9 bz tC hSi hMi hti hzi;gi_wp2_with (refine⟨trivial,?_⟩;gi_at_call 17;refine(callsIn_wide.2 HID.out).mono ?_;rintro e w4 ⟨ui,rfl,hOi⟩;refine Hid.out ?_)
   refine Lib.hid ?_;have hSB:=hSA.keep hOi.tch id (fun _ _ _=>id);have hMB:=hMA.keep hOi.tch id;have htB:=htA.trans hOi.tch;have HIF:=Lib.hid (fun x (hx:x∈zoh b (m1,m2,m3,m4,m5,m6))=>ids_few hx HPL.out);obtain⟨AI,kI,rfl,_,_⟩:=hOi.form;have hOI:=hOi.own;have HZB:=Lib.hid (show w3.heap.size≤w4.heap.size from Nat.le_trans HZA.out hOi.tch.size);have HWB:=Lib.hid (show mb+1≤(wr.alloc (.cells #[.int .i64 m1,.int .i64 m2,.int .i64 m3,.int .i64 m4,.int .i64 m5,.int .i64 m6] 31)).heap.size by have:=HZA.out;omega)
   obtain⟨D,hD⟩:∃D,zoh b (m1,m2,m3,m4,m5,m6)=D:=⟨_,rfl⟩
   rw[hD]at hOI HIF HLE;rw[hD];have HD:=Lib.hid hD;have hdl:=HLE.out;generalize wr.alloc (.cells #[.int .i64 m1,.int .i64 m2,.int .i64 m3,.int .i64 m4,.int .i64 m5,.int .i64 m6] 31)=wa at *;clear hD hSA hMA htA HID q0 q1 q2 q3 q4 q5 z0 z1 z2 z3 z4 z5;gi_wp2
   gi_loopw [38] (fun x wr=>∃(k:Nat) (vs:List Nat),k≤D.length∧x=.int .i64 (k:Int)∧SetAt 241 242 (mb+1) wr g vs∧(∀n,memW vs n=true↔memW ws n=true∨((n:Nat):Int)∈D.take k)∧MapB zmi wr mb []∧Tf w1 wr∧w4.heap.size≤wr.heap.size∧wr.ownsRow wa.heap.size 3 1 (.slice AI D.length kI) D.length (D.flatMap zby)) (fun x _=>D.length-(intOf x).toNat)
   case atStart=>exact⟨0,ws,Nat.zero_le _,rfl,hSB,fun n=>by simp,hMB,htB,Nat.le_refl _,hOI⟩
   case round=>
    obtain⟨k,vs,hk,rfl,hSk,hmk,hMk,htk,hzk,hOk⟩:=hrel;have hk0:=znn k;by_cases hkl:k<D.length
    ·have hkl':(k:Int)<(D.length:Int):=by omega
     obtain⟨gi,rfl⟩:=ziq hOk (by omega);have p0:=Row.one (i:=k) (show zae zby 1 (fun _=>True) wr (.slice (some ⟨gi,0,none⟩) D.length kI) D from Row.own hOk (fun _ _=>trivial)) zap hkl rfl;rw[Nat.zero_add]at p0;have HTK:=Lib.hid (List.take_succ_eq_append_getElem hkl);obtain⟨x,hx,hxe⟩:=HIF.out _ (List.getElem_mem hkl);rw[hxe]at p0 HTK;have HP:=Lib.hid (bput_any hSk (by omega) (by have:=HZB.out;omega) x hx);clear hxe;gi_wp2_with (refine⟨trivial,?_⟩;gi_at_call 62;refine(callsIn_wide.2 HP.out).mono ?_;rintro e w5 ⟨e5,vs5,rfl,he5,hS5,hm5,t5⟩;refine Hid.out ?_)
     refine Lib.hid ?_
     have hM5:=hMk.keep t5 (fun hf=>by
      rcases hf with e1|⟨e1,_⟩<;>omega)
     have ht5:=htk.trans' t5 (fun q hq=>.inr (by rcases hq with e1|⟨e1,_⟩<;>omega))
     have hO5:=t5.own hOk (fun q hq hf=>by
      have h9:=own_isW hOk hq;have:=HWB.out
      rcases hf with e1|⟨_,cs9,fr9,h8⟩
      ·omega
      ·obtain⟨cs7,fr7,h7⟩:=h9.2;rw[h7]at h8;injection h8 with h8;injection h8 with _ h8
       exact absurd h8 (by decide))
     have hm5':∀n,memW vs5 n=true↔memW ws n=true∨((n:Nat):Int)∈D.take (k+1):=fun n=>by
      rw[hm5,HTK.out,List.mem_append,List.mem_singleton,Bool.or_eq_true,hmk,decide_eq_true_eq,or_assoc];refine or_congr Iff.rfl (or_congr Iff.rfl ?_);omega
     have HH:=Lib.hid (⟨hS5,hm5',hM5,ht5,Nat.le_trans hzk t5.size,hO5⟩:_∧_∧_∧_∧_∧_);clear hS5 hm5' hM5 ht5 hO5 hSk hmk hMk htk hOk HP hm5 t5;rcases he5 with rfl|rfl
     ·gi_wp2
      go_roundw
      case rel=>exact⟨k+1,vs5,by omega,by go_num,HH.out⟩
      case measure=>simp[intOf];omega
     ·gi_wp2
      go_roundw
      case rel=>exact⟨k+1,vs5,by omega,by go_num,HH.out⟩
      case measure=>simp[intOf];omega
    ·obtain rfl:k=D.length:=by omega
     have hkl':¬(D.length:Int)<(D.length:Int):=by omega
     rw[List.take_length]at hmk
     have hmi':∀n,memW vs n=true↔∃m∈L.take (i+1),((n:Nat):Int)∈zoh b m:=fun n=>by
      rw[hmk,hmi,HNX.out];simp only[List.mem_append,List.mem_singleton,or_and_right,exists_or,exists_eq_left,HD.out]
     have HH:=Lib.hid (⟨hSk,hmi',hMk,htk,Nat.le_trans HZB.out hzk⟩:_∧_∧_∧_∧_);clear hSk hmi' hMk htk hmk hmi hOk;gi_wp2
     go_roundw
     case rel=>exact⟨i+1,vs,by omega,by go_num,HH.out⟩
     case measure=>simp[intOf];omega
  ·obtain rfl:i=L.length:=by omega
   have hlt':¬(L.length:Int)<(L.length:Int):=by omega
   rw[List.take_length]at hmi;have HLO:=Lib.hid (lines_ok HA1.out hmi);have hnl:=nums_all ws;have hwf:=hSi.few;clear hmi;gi_wp2_with (refine⟨trivial,?_⟩;gi_at_call 63;refine(beach_in Fence.wide _ trivial rfl _ _).mono ?_;rintro e w' ⟨rfl,rfl⟩;refine Hid.out ?_)
   refine Lib.hid ?_
   obtain⟨zo,hzo⟩:∃zo,wr.heap.size=zo:=⟨_,rfl⟩
   obtain⟨W0,hW0⟩:∃W0,(wr.alloc (.cells #[.slice none 0 0] 22)).alloc (.cells #[.pointer (some ⟨g,0,none⟩)] 140)=W0:=⟨_,rfl⟩
   have tW:Tf wr W0:=hW0▸(tal wr (.cells #[.slice none 0 0] 22)).trans (tal _ _);have hz0:W0.heap.size=zo+2:=by rw[←hW0,←hzo];simp
   have bO:Blk W0 zo 22 #[.slice none 0 0]:=by rw[←hW0,←hzo];exact(Blk.new wr 22 #[.slice none 0 0]).keep (tal _ _) id
   have bE:Blk W0 (zo+1) 140 #[.pointer (some ⟨g,0,none⟩)]:=by rw[←hW0,←hzo];exact Blk.new2 wr (.cells #[.slice none 0 0] 22) 140 #[.pointer (some ⟨g,0,none⟩)]
   have hS0:=hSi.keep tW id (fun _ _ _=>id);have hM0:=hMi.keep tW id;have ht0:=hti.trans tW;have hTT:=HTT.out _ (HT1.out.trans ht0)
   have hgz:g<zo:=by
    obtain⟨_,_,hb9,_⟩:=hSi.ex;have:=hb9.lt;omega
   rw[hzo,hW0];clear hW0 hSi hMi hti tW;gi_wp2
   generalize ha0:({tmps:=_,defers:=[]}:Act)=a0;have HA0:=Lib.hid ha0;have hg53:a0.eval (.tmp 53)=.func (.func 147) #[] #[.pointer (some ⟨zo+1,0,none⟩)]:=by rw[←ha0];rfl
   clear ha0;obtain⟨i0,hi,hz,hs,hb⟩:=info_parts zaj.info;have HZ0:=Lib.hid hz0
   refine wpIn_rangeFunc_ownH rfl (by omega) (gf:=147) (lb:= #[.pointer (some ⟨zo+1,0,none⟩)]) hg53 trivial (enters_of Tryz.func147 (by kernel_rfl) rfl)
    (beach_stops _ (by omega) (zo+1) zo g (mb+1) hwf W0 (by omega) (by omega) bE.at0 hS0 hTT (by omega))
    ?kt ?kb (Below.refl _ _) (fun _=>rfl)
    (fun pre W=>(∃v,Blk W zo 22 #[v]∧W.ownsRow (zo+2) 3 1 v pre.length (pre.flatMap fun(n:Nat)=>[Value.int .i64 (n:Int)]))∧MapB zmi W mb []∧Tch (fun k=>zo≤k) W0 W)
    (fun _ _ _=>False) ?hI (fun _ _ _ _ _ hs _ _=>hs) ⟨⟨_,bO,World.ownsRow_nil _ _ _ _⟩,hM0,Tch.refl _ _⟩
    (fun x a' W=>a'={tmps:=(a0.tmps.setIfInBounds 54 (.int .i64 (x:Int))).setIfInBounds 15 (.int .i64 (x:Int)),defers:=[]}) (fun _ _ _ _ _ _ h _ _=>h) ?assign ?body ?done ?stop
   case kt=>exact fun h k=>⟨h.1.trans k.1,fun g cs hb=>k.2 g cs (h.2 g cs hb)⟩
   case kb=>
    intro W l o o' hl ho hc hw;refine⟨belowK_b (w:=W0) (by omega) W l o o' hl ho hc hw,fun k cs hb=>?_⟩
    have hk:k≠l:=fun e=>by
     subst e;have h2:W.heap[k]?=some (.cells cs 242):=hb;rw[h2]at ho;cases ho;cases hc
    exact(World.putObj_heap_other hk).trans hb
   case hI=>
    rintro s W W' row ⟨⟨v,h1,h2⟩,h3,h4⟩ hg9 hr;have t:Tch (fun g=>row=some g) W W':=Tch.grown hg9 fun k hk=>.inl hk
    have hne:∀g,(∀o,W.heap[g]?=some o→o.isCells=true)→¬row=some g:=fun g hc e=>by
     obtain⟨_,o,ho,hcc⟩:=hr g e;rw[hc o ho]at hcc;cases hcc
    refine⟨⟨v,h1.keep t (hne _ fun o ho=>?_),t.own h2 fun g hg=>hne g (z5f h2 hg)⟩,h3.keep t (fun e=>by have:=(hr _ e).1;omega),h4.trans (t.mono fun g _ e=>by have:=(hr g e).1;omega)⟩;have h5:W.heap[zo]?=some (.cells #[v] 22):=h1;rw[h5]at ho;cases ho;rfl
   case assign=>
    rintro l pre x W K hI hK;have hk:=hK _ W ((KeepsOthers.refl _).from _) ⟨Below.refl _ _,fun _ _ h=>h⟩ hI rfl;rw[←HA0.out]at hk⊢;gi_wp2
    exact hk
   case body=>
    rintro l pre x a' W hl hrec ⟨⟨v,h1,h2⟩,h3,h4⟩ rfl hlen;obtain⟨A0,c0,rfl,_,_⟩:=zac h2;have g0:=h1.at0;have ta:=tal W (.cells #[.int .i64 (x:Int)] 3);have HH:=Lib.hid (⟨h1,h2,h3,h4⟩:_∧_∧_∧_);have hsz:=h4.size;have ho1:=ta.own h2 (fun _ _=>id);have hb1:=h1.keep ta id;rw[←HA0.out];clear h1 h2 h3 h4;gi_wp2_with (gi_at_builtin;refine Hid.out ?_)
    refine Lib.hid ?_;refine wpListIn_append_own _ rfl _ _ 22 rfl (zo+2) 3 i0 (.int .i64 0) 1 8 Tryz.underlying22 hi hz hs hb rfl (by decide) _ _ _ rfl ho1 ⟨W.heap.size,0,none⟩ 1 1 [.int .i64 (x:Int)] rfl rfl (fun j u hu=>by have h9:=(Blk.new W 3 #[.int .i64 (x:Int)]).cell j;rw[show(⟨W.heap.size,0,none⟩:Addr).add j=⟨W.heap.size,j,none⟩ by unfold Addr.add;split<;>simp_all,h9];simpa using hu) (by simp[Value.oneCell']) (by unfold maxLen;omega) (by omega) (by simp;omega) ?_;intro v' w1' ho2 hg2 _;obtain⟨g',cap',rfl⟩:=ownsRow_succ ho2;have hb2:=hb1.keep (Tch.grown (F:=fun k=>(Value.slice A0 pre.length c0).ownBlock=some k) hg2 (fun k hk=>.inl hk)) (fun e=>by have:=(ho1.lt _ e).1;omega);have hc2:=hb2.at0;have hf2:=hb2.frozen 0;have HH2:=Lib.hid (⟨ho2,hg2,hb2⟩:_∧_∧_);clear ho2 hg2 hb2 ho1 hb1 g0;gi_wp2
    obtain⟨h1,h2,h3,h4⟩:=HH.out;obtain⟨ho2,hg2,hb2⟩:=HH2.out;have tg:Tch (fun k=>(Value.slice A0 pre.length c0).ownBlock=some k) _ w1':=Tch.grown hg2 (fun k hk=>.inl hk);have tS:Tch (fun k=>k=zo) w1' (w1'.setCell ⟨zo,0,none⟩ (.slice (some ⟨g',0,none⟩) (pre.length+1) cap')):=Tch.setCell (F:=fun k=>k=zo) w1' (p:=⟨zo,0,none⟩) (.inl rfl) _;have tt:Tch (fun k=>k=zo∨(Value.slice A0 pre.length c0).ownBlock=some k) W (w1'.setCell ⟨zo,0,none⟩ (.slice (some ⟨g',0,none⟩) (pre.length+1) cap')):=((Exn.touch ta).trans (tg.mono fun _ _ h=>.inr h)).trans (tS.mono fun _ _ h=>.inl h)
    have hk:=z2u W0.heap.size tt (fun k hk o ho=>by
     rcases hk with rfl|hk
     ·have h5:W.heap[k]?=some (.cells #[_] 22):=h1;rw[h5]at ho;cases ho;rfl
     ·exact z5f h2 hk o ho)
    have hlow:∀k,(k=zo∨(Value.slice A0 pre.length c0).ownBlock=some k)→zo≤k:=fun k hk=>by
     rcases hk with rfl|hk
     ·exact Nat.le_refl _
     ·have:=(h2.lt k hk).1;omega
    have hwk:∀k cs,Blk W k 242 cs→¬(k=zo∨(Value.slice A0 pre.length c0).ownBlock=some k):=fun k cs hb9 hk=>by
     have h7:W.heap[k]?=some (.cells cs 242):=hb9;rcases hk with rfl|hk
     ·have h5:W.heap[k]?=some (.cells #[_] 22):=h1;rw[h5]at h7;injection h7 with h7;injection h7 with _ h7;exact absurd h7 (by decide)
     ·obtain⟨_,cs7,fr7,h5⟩:=own_isW h2 hk;rw[h5]at h7;injection h7 with h7;injection h7 with _ h7;exact absurd h7 (by decide)
    have hb3:=hb2.set_ 0 (.slice (some ⟨g',0,none⟩) (pre.length+1) cap');have ho3:=tS.own ho2 (fun k hk e=>by have:=(ho2.lt k hk).1;have e:k=zo:=e;omega);refine⟨hk.1,⟨⟨tt.os,tt.tape,tt.output,tt.size,fun k hk9=>tt.block k (by omega) (fun h9=>by have:=hlow k h9;omega)⟩,fun k cs hb9=>hb9.keep tt (hwk k cs hb9)⟩,⟨.slice (some ⟨g',0,none⟩) (pre.length+1) cap',by simpa using hb3,by rw[List.flatMap_append,List.length_append,List.flatMap_singleton];exact ho3⟩,h3.keep tt (fun h9=>by have:=hlow _ h9;omega),h4.trans (tt.mono fun k _ hk9=>hlow k hk9)⟩
   case done=>
    rintro D ys W hD rfl ⟨⟨v,h1,h2⟩,h3,h4⟩ hK;have g0:=h1.at0;have HH:=Lib.hid (⟨h1,h2,h3,h4⟩:_∧_∧_∧_);have HM:=Lib.hid h3;rw[←HA0.out];clear h1 h2 h3 h4;gi_wp2
    gi_loopw [] (fun wr=>W=wr) (fun _=>0)
    case atStart=>rfl
    case round=>
     subst hrel;gi_wp2_with (refine wpListIn_lenmap rfl _ _ rfl _ Tryz.underlying142 (by rfl) HM.out ?_;refine Hid.out ?_)
     refine Lib.hid ?_;gi_wp2
     obtain⟨⟨h1,h2⟩,h3,h4⟩:=(⟨⟨HH.out.1,HH.out.2.1⟩,HH.out.2.2.1,HH.out.2.2.2⟩:(_∧_)∧_∧_)
     have ho9:=ownsRow_putObj h2 (.deferred none) hK rfl;refine⟨by simp,.inl ⟨_,_,rfl,run_takeDeferred hK,?_⟩⟩;refine⟨_,results_tmp2 rfl _ _ _,numI ws,v,0,rfl,⟨?_,?_⟩,HLO.out⟩
     ·rw[numI_flat,numI_len];exact zbk (zb8 ho9) (fun k hk=>by have:=(ho9.lt k hk).1;have:=HT1.out.size;have:=ht0.size;omega)
     ·exact((HT1.out.trans ht0).trans' h4 (fun i hi=>.inr (by have hi:zo≤i:=hi;have:=HT1.out.size;have:=ht0.size;omega))).trans' (Tch.grown (F:=fun k=>k=D) (grownBy_putObj' _ D _) fun k e=>.inl (by cases e;rfl)) (fun i hi=>.inr (by have hi:i=D:=hi;have:=HT1.out.size;have:=ht0.size;omega))
   case stop=>
    rintro D c pre W _ _ h _;exact h.elim
end
end Go.Proofs.YtoegobjnjljegaaGreatDoor
namespace Go.Gk
open Go.RowKit
theorem wpList_make1 {P:Program} {ops:Array Oper} {rest:List Oper} {o:Oper} {a:Act} {w:World} {Q:Exit→Act→World→Prop} (hgd:o.guard=none) (t:TypeId) (x y:Operand) (ho:o.op=.makeSlice t x y) {e:TypeId} {z:Value} {bytes:Nat} (hr:RowTy P t e z 1 bytes) (hz1:z.cells= #[z]) {N:Int} {n:Nat} (hN:N=n) (hx:a.eval x=.int .i64 N) (hy:a.eval y=.int .i64 N) (hb:bytes*n≤281474976710656) (h63:n≤9223372036854775807)
 (h:∀(W:World),Blk W w.heap.size e (List.replicate n z).toArray→Tf w W→w.heap.size<W.heap.size→wpList P ops Q rest (a.put o.dst (.slice (some ⟨w.heap.size,0,none⟩) n n)) W):wpList P ops Q (o::rest) a w:=by
 subst hN;obtain⟨i,hi,hz,hsize,hby⟩:=info_parts hr.info;have hrun:=run_make_row (P:=P) t e i z hr.und hi hz hsize hz1 .i64 .i64 n (by rw[hby];exact hb) h63 w;refine wpList_plain hgd fun K hK=>?_
 unfold Oper.wp execOp;simp only[ho,hx,hy,Sem.run_bind,Sem.run_pure,Result.andThen_ok,hrun];refine hK _ _ (h _ ?_ (Tch.alloc _ _ _) (by simp));rw[←toList_madeCells_one,Array.toArray_toList];exact Blk.new _ _ _
end Go.Gk
namespace Go.Gk.V39
open Go.RowKit Go.Gk Go.Gk.V33 Go.Gk.V37 Go.Gk.V38
theorem bl_set {w:World} {g:Nat} {T:TypeId} {R:List Bool} {i:Nat} {r:Bool} (h:Blk w g T ((R.set i r).map Value.bool).toArray) (x:Bool):Blk (w.setCell ⟨g,i,none⟩ (.bool x)) g T ((R.set i x).map Value.bool).toArray:=by
 have h1:=h.set_ i (.bool x);rw[List.setIfInBounds_toArray,←List.map_set,List.set_set]at h1;exact h1
theorem ltC_same:∀{l m:List Rt6},(l.Pairwise fun x y=>Go.Proofs.ltOf z21 x y=true)→(m.Pairwise fun x y=>Go.Proofs.ltOf z21 x y=true)→(∀x,x∈l↔x∈m)→l=m
 |[],[],_,_,_=>rfl
 |[],y::r,_,_,h=>absurd ((h y).2 (List.mem_cons_self ..)) List.not_mem_nil
 |x::r,[],_,_,h=>absurd ((h x).1 (List.mem_cons_self ..)) List.not_mem_nil
 |x::r,y::s,hl,hm,h=>by
  have a:=List.pairwise_cons.1 hl;have b:=List.pairwise_cons.1 hm
  have no:∀u v,Go.Proofs.ltOf z21 u v=true→Go.Proofs.ltOf z21 v u=true→False:=fun u v h1 h2=>by
   have:=swoC.trans _ _ _ h1 h2;rw[swoC.irrefl]at this
   cases this
  have hxy:x=y:=by
   rcases List.mem_cons.1 ((h x).1 (List.mem_cons_self ..))with e|e
   ·exact e
   ·rcases List.mem_cons.1 ((h y).2 (List.mem_cons_self ..))with e2|e2
    ·exact e2.symm
    ·exact(no _ _ (b.1 x e) (a.1 y e2)).elim
  subst hxy;congr 1
  refine ltC_same a.2 b.2 fun z=>⟨fun hz=>?_,fun hz=>?_⟩
  ·exact(List.mem_cons.1 ((h z).1 (List.mem_cons_of_mem _ hz))).resolve_left fun e=>by have h9:=a.1 z hz;rw[e,swoC.irrefl]at h9;cases h9
  ·exact(List.mem_cons.1 ((h z).2 (List.mem_cons_of_mem _ hz))).resolve_left fun e=>by have h9:=b.1 z hz;rw[e,swoC.irrefl]at h9;cases h9
theorem moves_one {b:Bks} {c:Rt6} {L M:List Rt6} {er er2:Int} (h:MovesAns b c L er) (h2:MovesAns b c M er2):L=M:=by
 obtain⟨a1,a2,a3⟩:=h;obtain⟨b1,b2,b3⟩:=h2;by_cases h0:er=0
 ·obtain⟨N,hN,rfl⟩:=a3 h0;obtain⟨N2,hN2,rfl⟩:=b3 (by rw[b1,←a1];exact h0);rw[ltC_same hN.lt hN2.lt fun x=>(hN.mem x).trans (hN2.mem x).symm]
 ·rw[a2 h0,b2 (by rw[b1,←a1];exact h0)]
def FedAns (b:Bks) (l:List Rt6) (id:Int) (r:List Bool):Prop:=r.length=l.length∧∀i (h:i<l.length),r[i]?=some true↔∃L er,MovesAns b l[i] L er∧∃m∈L,id∈zoh b m
end Go.Gk.V39
namespace Go.Proofs.YtoegobjnjljegaaGreatDoor
open Go.RowKit Go.Gk Go.Gk.V33 Go.Gk.V37 Go.Gk.V38 Go.Gk.V39
theorem rowBl:RowTy Tryz.prog 122 4 (.bool false) 1 1:=⟨Tryz.underlying122,by kernel_rfl,rfl,by decide⟩
section
variable {w:World} {bv bi B t mr mp:Nat} {e a s r l n lv:Value} {fs:List Value} {b:Bks} {us:List (Ent×Value)}
theorem fed39_any (h:Vw w bv bi B t mr mp e a s r l n lv fs b us) (F:RuleFacts b) (hpl:(zay b.entries).length≤3000) (hE:b.ents.length≤6) (hA:b.accs.length≤9) (hT:Tab64 0 w) (nr:Int) {v:Value} {cl:List Rt6} (hl:zae za2 6 (fun _=>True) w v cl) (hn:cl.length≤1000) (hp3:∀c∈cl,c.2.2.2.1≤3):
 Calls Tryz.prog 53 #[.pointer (some ⟨bv,0,none⟩),.int .i64 nr,v] w fun x w'=>∃(u:Value) (rs:List Bool),x=.returned u∧zae (fun(x:Bool)=>[Value.bool x]) 1 (fun _=>True) w' u rs∧Tf w w'∧FedAns b cl nr rs:=by
 obtain⟨A,c,rfl,hc1,hc2⟩:=hl.form;have HV:=Lib.hid (fun w' (t9:Tf w w')=>h.keep t9);have HTT:=Lib.hid (fun w' (t9:Tf w w')=>hT.keep t9);have HLR:=Lib.hid (fun w' (t9:Tf w w')=>hl.keep t9);have HP3:=Lib.hid hp3;clear h hT hl hp3;go_enter Tryz.func53,Tryz.ntmps53;go_wp2_with (refine wpList_make1 rfl _ _ _ rfl rowBl rfl (N:=(cl.length:Int)) (n:=cl.length) rfl (by rfl) (by rfl) (by omega) (by omega) ?_;refine Hid.out ?_);refine Lib.hid ?_;intro W1 hB1 tW hz1;generalize hzo:w.heap.size=zo at *;have HTW:=Lib.hid tW;have HZO:=Lib.hid hzo;have hB0:Blk W1 zo 4 ((List.replicate cl.length false).map Value.bool).toArray:=by rw[List.map_replicate];exact hB1
 clear hB1 tW hzo;go_wp2_with fail;go_loopw [19] (fun x wr=>∃(i:Nat) (R:List Bool),i≤cl.length∧x=.int .i64 (i:Int)∧R.length=cl.length∧(∀k (h:k<cl.length),k<i→(R[k]?=some true↔∃L er,MovesAns b cl[k] L er∧∃m∈L,nr∈zoh b m))∧(∀k,i≤k→k<cl.length→R[k]?=some false)∧Blk wr zo 4 (R.map Value.bool).toArray∧Tch (fun k=>k=zo) W1 wr) (fun x _=>cl.length-(intOf x).toNat)
 case atStart=>exact⟨0,List.replicate cl.length false,Nat.zero_le _,rfl,by simp,fun k h h9=>by omega,fun k _ h=>by simp[h],hB0,Tch.refl _ _⟩
 case round=>
  obtain⟨i,R,hi,rfl,hRl,hdone,hrest,hB,ht⟩:=hrel;have hi0:=znn i;have htw:=HTW.out.trans' ht (fun k hk=>.inr (by have hk:k=zo:=hk;have:=HZO.out;omega));have HD:=Lib.hid hdone;have HR:=Lib.hid hrest;have HRL:=Lib.hid hRl;have HT:=Lib.hid ht;clear hdone hrest hRl ht;by_cases hlt:i<cl.length
  ·have hlt':(i:Int)<(cl.length:Int):=by omega
   have hl9:=HLR.out wr htw;obtain⟨gl,ol,rfl⟩:=hl9.head (by omega);obtain⟨q0,q1,q2,q3,q4,q5⟩:=Row.six hl9 zd3 hlt rfl;have hp4:=HP3.out _ (List.getElem_mem hlt);have HCI:=Lib.hid (show∃h:i<cl.length,cl[i]=cl[i]from⟨hlt,rfl⟩)
   obtain⟨cc,hcc⟩:∃cc,cl[i]=cc:=⟨_,rfl⟩
   have HCC:=Lib.hid (show∃h:i<cl.length,cl[i]=cc from⟨hlt,hcc⟩);simp only[hcc]at q0 q1 q2 q3 q4 q5 hp4;clear hcc HCI;obtain⟨c1,c2,c3,c4,c5,c6⟩:=cc;simp only at q0 q1 q2 q3 q4 q5 hp4;have tC:=tal wr (.cells #[.int .i64 c1,.int .i64 c2,.int .i64 c3,.int .i64 c4,.int .i64 c5,.int .i64 c6] 31);obtain⟨z0,z1,z2,z3,z4,z5⟩:=(Blk.new wr 31 #[.int .i64 c1,.int .i64 c2,.int .i64 c3,.int .i64 c4,.int .i64 c5,.int .i64 c6]).f6;have HMV:=Lib.hid (moves_any (HV.out _ (htw.trans tC)) F hpl hE hA (HTT.out _ (htw.trans tC)) c1 c2 c3 c4 c5 c6 hp4);have hBC:=hB.keep tC (fun h=>h);have hTC:=HT.out.trans (Exn.touch tC);have tCC:=tC;clear hl9 hB tC;go_wp2_with fail;generalize wr.alloc (.cells #[.int .i64 c1,.int .i64 c2,.int .i64 c3,.int .i64 c4,.int .i64 c5,.int .i64 c6] 31)=wa at *;refine HMV.out.mono ?_;rintro _ w4 ⟨L,u,er,rfl,hr4,t4,hA4⟩;obtain⟨AL,kL,rfl,_,_⟩:=hr4.form;have HA4:=Lib.hid hA4;have hB4:=hBC.keep t4 (fun h=>h);have hT4:=hTC.trans (Exn.touch t4)
   have HLL:=Lib.hid (show L.length≤20000 by
    by_cases her:er=0
    ·obtain⟨N,hN,rfl⟩:=hA4.2.2 her;exact Nat.le_trans (List.length_filter_le _ _) hN.len
    ·rw[hA4.2.1 her];simp)
   have hll:=HLL.out;have HRR:=Lib.hid (show zae za2 6 (fun k=>k≠zo) w4 (.slice AL L.length kL) L from hr4.weak (P':=fun k=>k≠zo) (fun k hk e=>by have hk:wa.heap.size≤k:=hk;have:=hBC.lt;omega));have hwt:=htw.trans (tCC.trans t4);clear HMV hr4 t4 hBC hTC q0 q1 q2 q3 q4 q5 z0 z1 z2 z3 z4 z5 hA4;have HRK:=Lib.hid (fun wr (t9:Tch (fun k=>k=zo) w4 wr)=>Row.keepTo (P':=fun _=>True) HRR.out t9 (fun g _ hp=>⟨hp,trivial⟩))
   have hR0:R.set i false=R:=by
    have h9:=HR.out i (Nat.le_refl _) hlt;apply List.ext_getElem?
    intro k;rw[List.getElem?_set];by_cases hk:i=k
    ·subst hk;rw[if_pos rfl,if_pos (by rw[HRL.out];exact hlt),h9]
    ·rw[if_neg hk]
   have hB5:Blk w4 zo 4 ((R.set i false).map Value.bool).toArray:=by rw[hR0];exact hB4
   clear hB4 hR0;go_wp2_with fail;go_loopw [32] (fun x wr=>∃(j:Nat) (r:Bool),j≤L.length∧x=.int .i64 (j:Int)∧(r=true↔∃m∈L.take j,nr∈zoh b m)∧Blk wr zo 4 ((R.set i r).map Value.bool).toArray∧Tch (fun k=>k=zo) w4 wr) (fun x _=>L.length-(intOf x).toNat)
   case atStart=>exact⟨0,false,Nat.zero_le _,rfl,by simp,hB5,Tch.refl _ _⟩
   case round=>
    obtain⟨j,r,hj,rfl,hr,hBj,htj⟩:=hrel;have hj0:=znn j;have HRJ:=Lib.hid hr;clear hr;have hil:i<((R.set i r).map Value.bool).length:=by rw[List.length_map,List.length_set,HRL.out];exact hlt
    have k0:wr.cell? ⟨zo,i,none⟩=some (.bool r):=by
     rw[hBj.cell i,List.getElem?_toArray,List.getElem?_map,List.getElem?_set,if_pos rfl,if_pos (by rw[HRL.out];exact hlt)];rfl
    by_cases hjl:j<L.length
    ·have hjl':(j:Int)<(L.length:Int):=by omega
     have hl9:=HRK.out wr htj;obtain⟨gl,ol,rfl⟩:=hl9.head (by omega);obtain⟨p0,p1,p2,p3,p4,p5⟩:=Row.six hl9 zd3 hjl rfl;have HTK:=Lib.hid (List.take_succ_eq_append_getElem hjl);generalize L[j]=mm at *;obtain⟨m1,m2,m3,m4,m5,m6⟩:=mm;simp only at p0 p1 p2 p3 p4 p5;have tM:=tal wr (.cells #[.int .i64 m1,.int .i64 m2,.int .i64 m3,.int .i64 m4,.int .i64 m5,.int .i64 m6] 31);obtain⟨z0,z1,z2,z3,z4,z5⟩:=(Blk.new wr 31 #[.int .i64 m1,.int .i64 m2,.int .i64 m3,.int .i64 m4,.int .i64 m5,.int .i64 m6]).f6;have hBM:=hBj.keep tM id;have htM:=htj.trans (Exn.touch tM);have k1:=tM.cell_some k0 id;have HW:=Lib.hid (hwt.trans' htM (fun k hk=>.inr (by have hk:k=zo:=hk;have:=HZO.out;omega)))
     have HNM:=Lib.hid (fun(y:Bool) (hy:y=true↔nr∈zoh b (m1,m2,m3,m4,m5,m6))=>show((r||y)=true↔∃m∈L.take (j+1),nr∈zoh b m) by
      rw[HTK.out,Bool.or_eq_true,HRJ.out,hy]
      simp only[List.mem_append,List.mem_singleton,or_and_right,exists_or,exists_eq_left])
     have fz:=fun o=>hBM.frozen o
     have HIM:=Lib.hid (zlw (HV.out _ HW.out) F.hn F.hp m1 m2 m3 m4 m5 m6);have HIL:=Lib.hid (ids_len b (m1,m2,m3,m4,m5,m6) hpl);have HIY:=Lib.hid (show((zoh b (m1,m2,m3,m4,m5,m6)).contains nr=true↔nr∈zoh b (m1,m2,m3,m4,m5,m6)) by simp);generalize zoh b (m1,m2,m3,m4,m5,m6)=D at *;have HB:=Lib.hid hBM;have HTM:=Lib.hid htM;generalize hwM:wr.alloc (.cells #[.int .i64 m1,.int .i64 m2,.int .i64 m3,.int .i64 m4,.int .i64 m5,.int .i64 m6] 31)=wm at *;have tS:=fun(w:World) (u:Value)=>Tch.setCell (F:=fun k=>k=zo) w (p:=⟨zo,i,none⟩) (.inl rfl) u
     clear hBj htj hBM htM hl9
     cases r;rotate_left
     ·have HNX:=Lib.hid (HNM.out _ HIY.out);go_wp2_with (simp only[hwM]);go_roundw
      case rel=>exact⟨j+1,true,by omega,by go_num,by simpa using HNX.out,bl_set HB.out true,HTM.out.trans (tS _ _)⟩
      case measure=>simp[intOf]<;>omega
     ·go_wp2_with (first|(simp only[hwM];done)|fail);(try simp only[hwM]);refine HIM.out.mono ?_;rintro _ w5 ⟨ui,rfl,hOi⟩;have HCT:=Lib.hid (zgy hOi.row (by have:=HIL.out;omega) nr);have hB5:=HB.out.keep hOi.tch (fun h=>h);have hT5:=HTM.out.trans (Exn.touch hOi.tch);clear HIM hOi k1 fz hwM;go_wp2_with fail;refine HCT.out.mono ?_;rintro _ w6 ⟨rfl,t6⟩;have hB6:=hB5.keep t6 (fun h=>h);have hT6:=hT5.trans (Exn.touch t6);have fz:=fun o=>hB6.frozen o
      have k2:w6.cell? ⟨zo,i,none⟩=some (.bool false):=by
       rw[hB6.cell i,List.getElem?_toArray,List.getElem?_map,List.getElem?_set,if_pos rfl,if_pos (by rw[HRL.out];exact hlt)];rfl
      have HB6:=Lib.hid hB6;have HT6:=Lib.hid hT6;have HNX:=Lib.hid (HNM.out _ HIY.out);generalize D.contains nr=yy at *;clear HCT hB5 hT5 t6 hB6 hT6 HNM HIY;go_wp2;go_roundw
      case rel=>exact⟨j+1,yy,by omega,by go_num,by simpa using HNX.out,bl_set HB6.out yy,HT6.out.trans (tS _ _)⟩
      case measure=>simp[intOf]<;>omega
    ·obtain rfl:j=L.length:=by omega
     have hjl':¬(L.length:Int)<(L.length:Int):=by omega
     rw[List.take_length]at HRJ;have HB:=Lib.hid hBj;have HTT:=Lib.hid (hT4.trans htj);clear hBj htj k0;go_wp2;go_roundw
     case rel=>
      refine⟨i+1,R.set i r,by omega,by go_num,by rw[List.length_set];exact HRL.out,fun k hk hki=>?_,fun k hk hkl=>?_,HB.out,HTT.out⟩
      ·rw[List.getElem?_set];by_cases hk2:i=k
       ·subst hk2;rw[if_pos rfl,if_pos (by rw[HRL.out];exact hlt)];obtain⟨_,hce⟩:=HCC.out;rw[hce];constructor
        ·intro h9;exact⟨L,er,HA4.out,HRJ.out.1 (Option.some.inj h9)⟩
        ·rintro⟨L2,er2,hA2,hm2⟩;rw[moves_one hA2 HA4.out]at hm2;rw[HRJ.out.2 hm2]
       ·rw[if_neg hk2];exact HD.out k hk (by omega)
      ·rw[List.getElem?_set,if_neg (by omega)];exact HR.out k (by omega) hkl
     case measure=>simp[intOf]<;>omega
  ·obtain rfl:i=cl.length:=by omega
   have hlt':¬(cl.length:Int)<(cl.length:Int):=by omega
   have hrow:zae (fun(x:Bool)=>[Value.bool x]) 1 (fun _=>True) wr (.slice (some ⟨zo,0,none⟩) cl.length cl.length) R:=by
    have h9:=z0z (base:=0) (size:=1) (n:=cl.length) hB (Nat.zero_le _) (by simp[HRL.out]) (by unfold maxLen;omega);have h8:=Row.own (P:=fun _=>True) h9 (fun _ _=>trivial);rw[←HRL.out]at h8⊢;show Row _ _ _ _ _ (R.flatMap fun x=>[Value.bool x]);rw[←List.map_eq_flatMap];simpa using h8
   have HH:=Lib.hid (⟨hrow,htw⟩:_∧_);clear hB hrow htw;go_wp2;go_ret;exact⟨_,rfl,R,HH.out.1,HH.out.2,HRL.out,fun k hk=>HD.out k hk hk⟩
end
end Go.Proofs.YtoegobjnjljegaaGreatDoor
namespace Go.Gk.V39
open Go.RowKit Go.Gk Go.Gk.V32 Go.Gk.V33 Go.Gk.V37 Go.Gk.V38
def rkOf (b:Bks) (c:Rt6):Option Rk4:=if c.1=3∧c.2.2.1≠1∧c.2.2.2.2.1≠zgg b c.2.1∧zas b.accs c.2.2.1=true then some (zgg b c.2.1,c.2.2.2.2.1,zei b c.2.2.1,c.2.2.2.1)else none
def hasR (b:Bks) (k:Rk4):Bool:=(zee b.rates k.1 k.2.1 k.2.2.1 k.2.2.2).2
theorem told_two (x:Int):(zda x).2=0∨(zda x).2=10:=by
 unfold zda;split<;>simp
theorem rule_base (b:Bks) (c:Rt6):(zfg b c).1.base.2=0∨(zfg b c).1.base.2=10:=by
 have h0:Rcp.none.base.2=0∨Rcp.none.base.2=10:=.inl rfl;unfold zfg;split
 ·split
  ·unfold zcz;split
   ·unfold zcr;split
    ·simp only;split
     ·exact told_two _
     ·exact h0
    ·exact h0
   split
   ·unfold zd1;split
    ·unfold zcp;simp only;repeat(first|exact h0|split)
    ·exact h0
   split
   ·unfold zcc;split
    ·unfold zc8;simp only;repeat(first|exact h0|split)
    ·exact h0
   split
   ·unfold zcf;split<;>exact h0
   ·unfold zfz;split<;>exact h0
  ·exact h0
 ·exact h0
theorem rule_rk {b:Bks} {c:Rt6} (hc:za3 c b.ents.length b.accs.length=0) (hr:(zfg b c).1.rated=true) (hh:(zfg b c).1.has=false):∃k,rkOf b c=some k∧hasR b k=false:=by
 have hn:¬Rcp.none.rated=true:=by decide
 unfold zfg at hr hh;rw[if_pos hc]at hr hh;by_cases hl:zas b.accs c.2.2.1=true
 rotate_left
 ·rw[if_neg hl]at hr;exact absurd hr hn
 rw[if_pos hl]at hr hh;unfold zcz at hr hh;by_cases h1:c.1=1∨c.1=2
 ·exfalso
  rw[if_pos h1]at hr;unfold zcr at hr;split at hr
  ·simp only at hr;split at hr<;>exact hn hr
  ·exact hn hr
 rw[if_neg h1]at hr hh;by_cases h3:c.1=3
 ·rw[if_pos h3]at hr hh;unfold zd1 at hr hh;split at hr
  ·next hm=>
   rw[if_pos hm]at hh;unfold zcp at hr hh;simp only at hr hh;by_cases h4:c.2.2.1=1
   ·rw[if_pos h4]at hr;split at hr<;>exact absurd hr hn
   rw[if_neg h4]at hr hh;by_cases h5:zgg b c.2.1=c.2.2.2.2.1
   ·rw[if_pos h5]at hr;exact absurd hr hn
   rw[if_neg h5]at hh;exact⟨_,if_pos ⟨h3,h4,fun e=>h5 e.symm,hl⟩,hh⟩
  ·exact absurd hr hn
 rw[if_neg h3]at hr hh;exfalso
 by_cases h4:c.1=4∨c.1=5
 ·rw[if_pos h4]at hr hh;unfold zcc at hr hh;split at hr
  ·next hm=>
   rw[if_pos hm]at hh;unfold zc8 at hr hh;simp only at hr hh;split at hr
   ·exact hn hr
   ·next h5=>
    rw[if_neg h5]at hh;split at hr
    ·exact hn hr
    ·next h6=>
     rw[if_neg h6]at hh;split at hr
     ·next h7=>
      rw[if_pos h7]at hh
      cases hh
     ·exact hn hr
  ·exact hn hr
 rw[if_neg h4]at hr;split at hr
 ·unfold zcf at hr;split at hr<;>exact hn hr
 ·unfold zfz at hr;split at hr<;>exact hn hr
theorem net_40 {p m:List Vl} (h:(zy4 p m).2=40):∃v∈p++m,v.2=40:=by
 unfold zy4 at h;by_cases h0:zzy 0 (p++m)=0
 ·rw[if_pos h0]at h;rcases told_two ((p.map (·.1)).sum-(m.map (·.1)).sum)with h1|h1<;>rw[h1]at h<;>cases h
 ·rw[if_neg h0]at h;obtain⟨v,hv,he⟩:=z6m h0;exact⟨v,hv,he.trans h⟩
theorem val_from40 {b:Bks} (hok:zba b=true) {c:Rt6} (hc:za3 c b.ents.length b.accs.length=0) (h:(zyq b c).2=40):(∃k,rkOf b c=some k∧hasR b k=false)∨∃k∈zyk (zfg b c).1,(zyq b k).2=40:=by
 have hs:=(z1a hok c).2.2;rw[z4z hok hc,z0f]at h;obtain⟨v,hv,h9⟩:=net_40 h;simp only[List.cons_append,List.mem_cons,List.mem_append,List.mem_map]at hv
 rcases hv with rfl|(⟨k,hk,rfl⟩|hv)|⟨k,hk,rfl⟩
 ·rcases rule_base b c with h1|h1<;>rw[h1]at h9<;>cases h9
 ·exact .inr ⟨k,(z1j _).2 (by unfold zys;simp[hk]),h9⟩
 ·split at hv
  ·next hr=>
   rw[List.mem_singleton]at hv;subst hv;unfold zyn at h9;split at h9
   ·exact .inr ⟨_,(z1j _).2 (by unfold zys;simp[hr]),h9⟩
   ·split at h9
    ·cases h9
    ·split at h9
     ·next hh=>
      unfold zyy at h9;rw[if_pos (hs hr hh)]at h9;rcases told_two (zze ((zyq b (zfg b c).1.scaled).1*(zfg b c).1.ratio.1) (zfg b c).1.ratio.2)with h1|h1<;>rw[h1]at h9<;>cases h9
     ·next hh=>exact .inl (rule_rk hc hr (by simpa using hh))
  ·cases hv
 ·exact .inr ⟨k,(z1j _).2 (by unfold zys;simp[hk]),h9⟩
theorem miss_40 {b:Bks} (hok:zba b=true):∀(n:Nat) {c:Rt6},zzj b c<n→za3 c b.ents.length b.accs.length=0→(zyq b c).2=40→∃d k,Need b [c] d∧rkOf b d=some k∧hasR b k=false
 |0,_,h,_,_=>by omega
 |n+1,c,h,hc,hv=>by
  rcases val_from40 hok hc hv with⟨k,h1,h2⟩|⟨k,hk,he⟩
  ·exact⟨c,k,.base (List.mem_singleton.2 rfl),h1,h2⟩
  ·have hd:=zz9 hok hc (z0s hk);obtain⟨d,q,h2,h3,h4⟩:=miss_40 hok n (by omega) hd.1 he;exact⟨d,q,need_split.2 (.inr ⟨k,hk,h2⟩),h3,h4⟩
open Go.RowKit Go.Sort Go.Gk Go.Gk.V38
def rk6 (k:Rk4):List Value:=[.int .i64 k.1,.int .i64 k.2.1,.int .i64 k.2.2.1,.int .i64 k.2.2.2,.int .i64 0,.int .i64 0]
theorem rk6_len:∀k,(rk6 k).length=6:=fun _=>rfl
theorem rk6_one (l:List Rk4):∀u∈l.flatMap rk6,u.oneCell'=true:=fun u hu=>by
 obtain⟨x,_,hx⟩:=List.mem_flatMap.1 hu;simp[rk6]at hx;rcases hx with rfl|rfl|rfl|rfl|rfl<;>rfl
theorem flatK_rk (d:Array Rk4):flatK rk6 6 d=(d.toList.flatMap rk6).toArray:=by
 refine ext_get! (by simp[zc5 rk6_len]) fun t ht=>?_
 have ht:t<d.size*6:=by simpa using ht
 have h1:t/6<d.size:=by omega
 rw[get_flatK _ _ _ _ ht];have h2:=zfp rk6_len d.toList (t/6) (by simpa using h1) (t%6) (Nat.mod_lt _ (by decide));rw[show t/6*6+t%6=t by omega,Array.getElem_toList]at h2;have h3:t<(d.toList.flatMap rk6).length:=by rw[zc5 rk6_len];simpa using ht
 rw[getElem!_pos d (t/6) h1,getElem!_pos (d.toList.flatMap rk6).toArray t (by simpa using h3),List.getElem_toArray];have h4:t%6<(rk6 d[t/6]).length:=by rw[rk6_len];exact Nat.mod_lt _ (by decide)
 (try simp only[Array.getElem_toList]);rw[getElem!_pos (rk6 d[t/6]) _ h4];rw[List.getElem?_eq_getElem h3,List.getElem?_eq_getElem h4]at h2;exact(Option.some.inj h2).symm
theorem holds_rk {w:World} {base c g:Nat} {e:TypeId} {l:List Rk4} (h:w.ownsRow base e 6 (.slice (some ⟨g,0,none⟩) l.length c) l.length (l.flatMap rk6)):HoldsK rk6 6 w g 0 l.toArray:=by
 unfold HoldsK;rw[flatK_rk];intro j hj;have hj:j<(l.flatMap rk6).length:=by simpa using hj
 rw[Nat.zero_add,id_eq,getElem!_pos (l.flatMap rk6).toArray j (by simpa using hj),List.getElem_toArray];refine⟨zk0 h rfl (List.getElem?_eq_getElem hj),?_⟩
 rcases h.2 with⟨hv,_⟩|⟨g',cap,cur,hv,_,hg,_⟩
 ·cases hv
 ·injection hv with e1;injection e1 with e1;injection e1 with e1;subst e1;simp[World.frozen?,hg]
def cmpR (x y:Rk4):Int:=z2k [Lib.compareInt x.1 y.1,Lib.compareInt x.2.1 y.2.1,Lib.compareInt x.2.2.1 y.2.2.1,Lib.compareInt x.2.2.2 y.2.2.2]
def ltR (x y:Rk4):Prop:=x.1<y.1∨(x.1=y.1∧(x.2.1<y.2.1∨(x.2.1=y.2.1∧(x.2.2.1<y.2.2.1∨(x.2.2.1=y.2.2.1∧x.2.2.2<y.2.2.2)))))
theorem cmpR_lt (x y:Rk4):cmpR x y<0↔ltR x y:=by
 unfold cmpR ltR;simp only[z7j];simp[z2k]
theorem swoR:SWO (Go.Proofs.ltOf cmpR) where
 irrefl x:=by
  unfold Go.Proofs.ltOf;rw[decide_eq_false_iff_not,cmpR_lt];unfold ltR;omega
 trans x y z h1 h2:=by
  unfold Go.Proofs.ltOf at *;rw[decide_eq_true_eq,cmpR_lt]at *;unfold ltR at *;omega
 ntrans x y z h1 h2:=by
  unfold Go.Proofs.ltOf at *;rw[decide_eq_false_iff_not,cmpR_lt]at *;unfold ltR at *;omega
theorem totR (x y:Rk4) (h1:Go.Proofs.ltOf cmpR x y=false) (h2:Go.Proofs.ltOf cmpR y x=false):x=y:=by
 unfold Go.Proofs.ltOf at *;rw[decide_eq_false_iff_not,cmpR_lt]at *;unfold ltR at *;obtain⟨x1,x2,x3,x4⟩:=x;obtain⟨y1,y2,y3,y4⟩:=y;simp only at h1 h2;simp only[Prod.mk.injEq];omega
def sortR (l:List Rk4):List Rk4:=l.mergeSort fun x y=>!(Go.Proofs.ltOf cmpR) y x
theorem sortR_perm (l:List Rk4):(sortR l).Perm l:=List.mergeSort_perm _ _
theorem sortR_len (l:List Rk4):(sortR l).length=l.length:=(sortR_perm l).length_eq
theorem sortR_le (l:List Rk4):(sortR l).Pairwise fun x y=>Go.Proofs.ltOf cmpR y x=false:=by
 have h1:(sortR l).Pairwise fun x y=>(!(Go.Proofs.ltOf cmpR) y x)=true:=List.pairwise_mergeSort (fun a b c h1 h2=>by
  simp only[Bool.not_eq_true']at *
  exact swoR.ntrans _ _ _ h2 h1) (fun a b=>by
  simp only[Bool.or_eq_true,Bool.not_eq_true'];by_cases h:Go.Proofs.ltOf cmpR b a=true
  ·right
   cases h9:Go.Proofs.ltOf cmpR a b with
   |false=>rfl
   |true=>have:=swoR.trans _ _ _ h h9;rw[swoR.irrefl]at this;cases this
  ·left;simpa using h) l
 exact h1.imp fun h=>by simpa using h
def dedR (l:List Rk4):List Rk4:=l.foldl (fun o x=>if o.getLast?=some x then o else o++[x]) []
theorem dedR_snoc (l:List Rk4) (x:Rk4):dedR (l++[x])=if(dedR l).getLast?=some x then dedR l else dedR l++[x]:=by
 unfold dedR;rw[List.foldl_append];rfl
theorem dedR_last:∀(n:Nat) {l:List Rk4},l.length=n→(dedR l).getLast?=l.getLast?∧(dedR l).length≤l.length∧∀x,x∈dedR l↔x∈l
 |0,l,h=>by
  obtain rfl:=List.eq_nil_of_length_eq_zero h;simp[dedR]
 |n+1,l,h=>by
  obtain⟨r,x,rfl⟩:∃r x,l=r++[x]:=⟨l.dropLast,l.getLast (fun e=>by rw[e]at h;cases h),(List.dropLast_concat_getLast _).symm⟩
  rw[List.length_append,List.length_singleton]at h;obtain⟨h1,h2,h3⟩:=dedR_last n (l:=r) (by omega);rw[dedR_snoc];by_cases hl:(dedR r).getLast?=some x
  ·rw[if_pos hl];refine⟨by rw[hl];simp,by rw[List.length_append];omega,fun y=>?_⟩;rw[h3,List.mem_append,List.mem_singleton];refine⟨.inl,fun h9=>h9.elim id fun h9=>?_⟩;subst h9;rw[h1]at hl;exact List.mem_of_getLast? hl
  ·rw[if_neg hl];refine⟨by simp,by simp only[List.length_append,List.length_singleton];omega,fun y=>?_⟩;rw[List.mem_append,List.mem_append,h3]
theorem dedR_up:∀(n:Nat) {l:List Rk4},l.length=n→(l.Pairwise fun x y=>Go.Proofs.ltOf cmpR y x=false)→(dedR l).Pairwise fun x y=>Go.Proofs.ltOf cmpR x y=true
 |0,l,h,_=>by
  obtain rfl:=List.eq_nil_of_length_eq_zero h;simp[dedR]
 |n+1,l,h,hs=>by
  obtain⟨r,x,rfl⟩:∃r x,l=r++[x]:=⟨l.dropLast,l.getLast (fun e=>by rw[e]at h;cases h),(List.dropLast_concat_getLast _).symm⟩
  rw[List.length_append,List.length_singleton]at h;rw[List.pairwise_append]at hs;have h1:=dedR_up n (l:=r) (by omega) hs.1;obtain⟨h3,_,h2⟩:=dedR_last n (l:=r) (by omega);have hx:∀y∈r,Go.Proofs.ltOf cmpR x y=false:=fun y hy=>hs.2.2 y hy x (List.mem_singleton.2 rfl)
  rw[dedR_snoc];by_cases hl:(dedR r).getLast?=some x
  ·rw[if_pos hl];exact h1
  ·rw[if_neg hl];refine List.pairwise_append.2 ⟨h1,List.pairwise_singleton _ _,fun a ha c hc=>?_⟩;rw[List.mem_singleton]at hc;subst hc;have ha':=(h2 a).1 ha
   cases h9:Go.Proofs.ltOf cmpR a c with
   |true=>rfl
   |false=>
    obtain rfl:=totR a c h9 (hx a ha');exfalso
    apply hl
    rw[h3]
    obtain⟨q,z,rfl⟩:∃q z,r=q++[z]:=⟨r.dropLast,r.getLast (fun e=>by rw[e]at ha';cases ha'),(List.dropLast_concat_getLast _).symm⟩
    rw[List.getLast?_concat];rcases List.mem_append.1 ha' with h8|h8
    ·rw[List.pairwise_append]at hs;have h7:=hs.1.2.2 a h8 z (List.mem_singleton.2 rfl);have h6:=hx z (List.mem_append_right _ (List.mem_singleton.2 rfl));rw[totR z a h7 h6]
    ·rw[List.mem_singleton.1 h8]
theorem dedR_take {l:List Rk4} {j:Nat} (hj:j<l.length) (h0:0<j):dedR (l.take (j+1))=dedR (l.take j)++if l[j]=l[j-1]then[]else[l[j]]:=by
 rw[List.take_succ_eq_append_getElem hj,dedR_snoc];have h1:=(dedR_last _ (l:=l.take j) rfl).1
 have h2:(l.take j).getLast?=some l[j-1]:=by
  rw[List.getLast?_eq_getElem?,List.length_take,Nat.min_eq_left (by omega),List.getElem?_take_of_lt (by omega),List.getElem?_eq_getElem (by omega)]
 rw[h1,h2];by_cases h:l[j]=l[j-1]
 ·rw[if_pos (by rw[h]),if_pos h,List.append_nil]
 ·rw[if_neg (fun e=>h (Option.some.inj e).symm),if_neg h]
theorem dedR_one (l:List Rk4) (h:l.length≤1):dedR l=l:=by
 match l,h with
 |[],_=>rfl
 |[x],_=>rfl
end Go.Gk.V39
namespace Go.Proofs.YtoegobjnjljegaaGreatDoor
open Go.RowKit Go.Gk Go.Sort Go.Gk.V38 Go.Gk.V39
theorem rowRt:RowTy Tryz.prog 25 115 (.agg #[.int .i64 0,.int .i64 0,.int .i64 0,.int .i64 0,.int .i64 0,.int .i64 0]) 6 48:=⟨Tryz.underlying25,by kernel_rfl,rfl,by decide⟩
theorem or4_any {w:World} {g:Nat} {t:TypeId} {a1 a2 a3 a4:Int} (h:Blk w g t #[.int .i64 a1,.int .i64 a2,.int .i64 a3,.int .i64 a4]):
 Calls Tryz.prog 183 #[.slice (some ⟨g,0,none⟩) 4 4] w fun x w'=>x=.returned (.int .i64 (z2k [a1,a2,a3,a4]))∧w'=w:=by
 obtain⟨f0,f1,f2,f3⟩:=h.f4
 obtain⟨r,hr⟩:∃r,z2k [a1,a2,a3,a4]=r:=⟨_,rfl⟩
 rw[hr];have HR:=Lib.hid hr;clear hr h;go_enter Tryz.func183,Tryz.ntmps183;go_wp2_with fail;go_loopw [8] (fun i wr=>∃j:Nat,j≤4∧i=.int .i64 j∧w=wr∧z2k ([a1,a2,a3,a4].drop j)=r) (fun i _=>4-(intOf i).toNat)
 case atStart=>exact⟨0,by omega,rfl,rfl,HR.out⟩
 case round=>
  obtain⟨j,hj,rfl,rfl,hc⟩:=hrel;have HC:=Lib.hid hc;clear hc;rcases(by omega:j=0∨j=1∨j=2∨j=3∨j=4)with rfl|rfl|rfl|rfl|rfl
  ·have HC:=Lib.hid (show(if a1≠0 then a1 else z2k [a2,a3,a4])=r from HC.out);by_cases hz:a1=0
   ·subst hz;go_wp2;go_roundw
    case rel=>exact⟨1,by omega,by go_num,by trivial,HC.out⟩
    case measure=>simp[intOf]
   ·have hzb:(a1 !=0)=true:=by simpa using hz
    have HZ:=Lib.hid hz;clear hz;go_wp2;(try simp only[Exit.inBlock,Exit.then]);(try rw[Exit.noGoto_ret]);go_ret;exact⟨by rw[←HC.out,if_pos HZ.out];rfl,rfl⟩
  ·have HC:=Lib.hid (show(if a2≠0 then a2 else z2k [a3,a4])=r from HC.out);by_cases hz:a2=0
   ·subst hz;go_wp2;go_roundw
    case rel=>exact⟨2,by omega,by go_num,by trivial,HC.out⟩
    case measure=>simp[intOf]
   ·have hzb:(a2 !=0)=true:=by simpa using hz
    have HZ:=Lib.hid hz;clear hz;go_wp2;(try simp only[Exit.inBlock,Exit.then]);(try rw[Exit.noGoto_ret]);go_ret;exact⟨by rw[←HC.out,if_pos HZ.out];rfl,rfl⟩
  ·have HC:=Lib.hid (show(if a3≠0 then a3 else z2k [a4])=r from HC.out);by_cases hz:a3=0
   ·subst hz;go_wp2;go_roundw
    case rel=>exact⟨3,by omega,by go_num,by trivial,HC.out⟩
    case measure=>simp[intOf]
   ·have hzb:(a3 !=0)=true:=by simpa using hz
    have HZ:=Lib.hid hz;clear hz;go_wp2;(try simp only[Exit.inBlock,Exit.then]);(try rw[Exit.noGoto_ret]);go_ret;exact⟨by rw[←HC.out,if_pos HZ.out];rfl,rfl⟩
  ·have HC:=Lib.hid (show(if a4≠0 then a4 else z2k [])=r from HC.out);by_cases hz:a4=0
   ·subst hz;go_wp2;go_roundw
    case rel=>exact⟨4,by omega,by go_num,by trivial,HC.out⟩
    case measure=>simp[intOf]
   ·have hzb:(a4 !=0)=true:=by simpa using hz
    have HZ:=Lib.hid hz;clear hz;go_wp2;(try simp only[Exit.inBlock,Exit.then]);(try rw[Exit.noGoto_ret]);go_ret;exact⟨by rw[←HC.out,if_pos HZ.out];rfl,rfl⟩
  ·have HC:=Lib.hid (show(0:Int)=r from HC.out);go_wp2;go_ret;exact⟨by rw[←HC.out];rfl,rfl⟩
theorem cmpR_any (x y:Rk4) (w:World):
 Calls Tryz.prog 113 #[.agg (rk6 x).toArray,.agg (rk6 y).toArray] w fun e w'=>e=.returned (.int .i64 (cmpR x y))∧Grw w w':=by
 obtain⟨a1,a2,a3,a4⟩:=x;obtain⟨b1,b2,b3,b4⟩:=y;have HC:=Lib.hid (fun x y w'=>Tryz.cmp_Compare_int x y w');unfold rk6 cmpR;simp only
 obtain⟨r1,hr1⟩:∃r,Lib.compareInt a1 b1=r:=⟨_,rfl⟩
 obtain⟨r2,hr2⟩:∃r,Lib.compareInt a2 b2=r:=⟨_,rfl⟩
 obtain⟨r3,hr3⟩:∃r,Lib.compareInt a3 b3=r:=⟨_,rfl⟩
 obtain⟨r4,hr4⟩:∃r,Lib.compareInt a4 b4=r:=⟨_,rfl⟩
 rw[hr1,hr2,hr3,hr4];have HR:=Lib.hid (⟨hr1,hr2,hr3,hr4⟩:_∧_∧_∧_);clear hr1 hr2 hr3 hr4;have bA:=(Blk.new w 115 #[.int .i64 a1,.int .i64 a2,.int .i64 a3,.int .i64 a4,.int .i64 0,.int .i64 0]).keep (tal _ (.cells #[.int .i64 b1,.int .i64 b2,.int .i64 b3,.int .i64 b4,.int .i64 0,.int .i64 0] 115)) id;have bB:=Blk.new2 w (.cells #[.int .i64 a1,.int .i64 a2,.int .i64 a3,.int .i64 a4,.int .i64 0,.int .i64 0] 115) 115 #[.int .i64 b1,.int .i64 b2,.int .i64 b3,.int .i64 b4,.int .i64 0,.int .i64 0];have gW:Grw w ((w.alloc (.cells #[.int .i64 a1,.int .i64 a2,.int .i64 a3,.int .i64 a4,.int .i64 0,.int .i64 0] 115)).alloc (.cells #[.int .i64 b1,.int .i64 b2,.int .i64 b3,.int .i64 b4,.int .i64 0,.int .i64 0] 115)):=(Grw.alloc _ _).trans (Grw.alloc _ _);go_enter Tryz.func113,Tryz.ntmps113;go_wp2_with fail;generalize(w.alloc (.cells #[.int .i64 a1,.int .i64 a2,.int .i64 a3,.int .i64 a4,.int .i64 0,.int .i64 0] 115)).alloc _=W at *;generalize w.heap.size=z at *;have x0:=grc bA.at0;have x1:=grc bA.at1;have x2:=grc bA.at2;have x3:=grc bA.at3;have y0:=grc bB.at0;have y1:=grc bB.at1;have y2:=grc bB.at2;have y3:=grc bB.at3;refine z1h 19 [(4,.inl (.int .i64 r1)),(9,.inl (.int .i64 r2)),(14,.inl (.int .i64 r3))] (by kernel_rfl) rfl (by kernel_rfl) (fun d _ _ _ _ h=>by cases d<;>exact h) trivial ?_;intro bef ops hbef hops;clear hbef;subst hops;simp only[tkS];iterate 4 (refine z3m (by rfl) (by rfl) (by rfl) (by rfl) (fun K hK=>?_);go_big_quiet_op;(first|refine hK _ ?_|refine⟨_,fun _=>rfl,hK _ ?_⟩);clear hK K;(try simp only[zaw]))
 refine z4q (.int .i64 r1) (by rfl) (by rfl) (fun wa hr=>?_) ?_
 ·refine zaa (d:=9) rfl (by simp) (fun K hK=>?_);go_step;refine(HC.out a1 b1 wa).mono ?_;rintro _ wb ⟨rfl,rfl⟩;exact hK _ _ ⟨by rw[HR.out.1],Grw.refl _⟩
 simp only[zaw];iterate 4 (refine z3m (by rfl) (by rfl) (by rfl) (by rfl) (fun K hK=>?_);go_big_quiet_op;(first|refine hK _ ?_|refine⟨_,fun _=>rfl,hK _ ?_⟩);clear hK K;(try simp only[zaw]))
 refine z4q (.int .i64 r2) (by rfl) (by rfl) (fun wa hr=>?_) ?_
 ·refine zaa (d:=14) rfl (by simp) (fun K hK=>?_);go_step;refine(HC.out a2 b2 wa).mono ?_;rintro _ wb ⟨rfl,rfl⟩;exact hK _ _ ⟨by rw[HR.out.2.1],Grw.refl _⟩
 simp only[zaw];iterate 4 (refine z3m (by rfl) (by rfl) (by rfl) (by rfl) (fun K hK=>?_);go_big_quiet_op;(first|refine hK _ ?_|refine⟨_,fun _=>rfl,hK _ ?_⟩);clear hK K;(try simp only[zaw]))
 refine z4q (.int .i64 r3) (by rfl) (by rfl) (fun wa hr=>?_) ?_
 ·refine zaa (d:=19) rfl (by simp) (fun K hK=>?_);go_step;refine(HC.out a3 b3 wa).mono ?_;rintro _ wb ⟨rfl,rfl⟩;exact hK _ _ ⟨by rw[HR.out.2.2.1],Grw.refl _⟩
 simp only[zaw];iterate 4 (refine z3m (by rfl) (by rfl) (by rfl) (by rfl) (fun K hK=>?_);go_big_quiet_op;(first|refine hK _ ?_|refine⟨_,fun _=>rfl,hK _ ?_⟩);clear hK K;(try simp only[zaw]))
 refine q_nil ?_;intro w3 hr;have HC6:=Lib.hid (HC.out a4 b4 w3);rw[HR.out.2.2.2]at HC6;have HO:=Lib.hid (or4_any (Blk.new w3 3 #[.int .i64 r1,.int .i64 r2,.int .i64 r3,.int .i64 r4]));have HG:=Lib.hid (gW.trans ((Grw.drew W).trans hr));clear x0 x1 x2 x3 y0 y1 y2 y3 bA bB gW hr HC;go_wp2_with fail;refine HC6.out.mono ?_;rintro _ _ ⟨rfl,rfl⟩;clear HC6;go_wp2_with fail;refine HO.out.mono ?_;rintro _ _ ⟨rfl,rfl⟩;clear HO;go_wp2;go_ret;exact⟨rfl,HG.out.trans (Grw.alloc _ _)⟩
theorem sortR_any {w0 w:World} {v:Value} {l:List Rk4} (hO:Outs rk6 6 115 w0 w v l) (hn:l.length≤200000):
 Calls Tryz.prog 112 #[v,.func (.func 113) #[] #[]] w fun e w'=>e=.returned (.tuple #[])∧Outs rk6 6 115 w0 w' v (sortR l):=by
 obtain⟨A,c,rfl,h1,h2⟩:=hO.form;by_cases h0:0<l.length
 ·obtain⟨g,rfl⟩:=ziq hO.own h0;have hg:=hO.own.lt g rfl;have hcon:=AnyQ.slices_SortFunc_total Tryz.sortRates 6 Tryz.isAgg115 Tryz.sizeOf115 rk6 rk6_len (fun x v hv=>rk6_one [x] v (by simpa using hv)) cmpR swoR 113 #[] g 0 c l.toArray w (enters_of Tryz.func113 (by kernel_rfl) rfl) (fun m os dk _ x y=>cmpR_any x y _) (holds_rk hO.own) hg.2 (by simp;omega) totR;refine(show Calls Tryz.prog 112 _ w _ from hcon).mono ?_;rintro e w' ⟨rfl,n,os,rfl⟩
  have hw:sortWorldK rk6 6 w g 0 n (sortR l).toArray os=Go.Sort.grow (putRow id (Go.Sort.ahead w n) g 0 ((sortR l).flatMap rk6).toArray) os:=by
   unfold sortWorldK putRowK;rw[flatK_rk]
  have ho:=z3n (F:=((sortR l).flatMap rk6).toArray) hO.own (by rw[List.size_toArray,zc5 rk6_len,zc5 rk6_len,sortR_len]) n os;have ht:=Tch.putrow id w n g 0 ((sortR l).flatMap rk6).toArray os;rw[←hw]at ho ht;refine⟨rfl,⟨?_,hO.tch.trans' ht (fun i hi=>.inr (by have hi:i=g:=hi;omega))⟩⟩;rw[sortR_len];exact ho
 ·obtain rfl:l=[]:=List.eq_nil_of_length_eq_zero (by omega);refine(show Calls Tryz.prog 112 _ w _ from AnyF.slices_SortFunc_none Tryz.sortRates A c (.func (.func 113) #[] #[]) w).mono ?_;rintro e w' ⟨rfl,rfl⟩;exact⟨rfl,by simpa[sortR]using hO⟩
end Go.Proofs.YtoegobjnjljegaaGreatDoor
namespace Go.Gk.V39
open Go.RowKit Go.Gk
theorem sixR_at {cs:List Value} {k m:Nat} {x:Rk4} {r:List Rk4} (h:(cs.drop k).take m=(x::r).flatMap rk6) {i:Nat} (hi:i<6):cs[k+i]?=(rk6 x)[i]?:=by
 have h2:((cs.drop k).take m)[i]?=(rk6 x)[i]?:=by
  rw[h,List.flatMap_cons,List.getElem?_append_left (by rw[rk6_len];exact hi)]
 have hl:i<((cs.drop k).take m).length:=by rw[h,List.flatMap_cons,List.length_append,rk6_len];omega
 rw[List.getElem?_take_of_lt (by rw[List.length_take]at hl;omega),List.getElem?_drop]at h2;exact h2
end Go.Gk.V39
namespace Go.Proofs.YtoegobjnjljegaaGreatDoor
open Go.RowKit Go.Gk Go.Gk.V38 Go.Gk.V39
theorem compactR_any {w:World} {base:Nat} {v:Value} {l:List Rk4} (hO:w.ownsRow base 115 6 v l.length (l.flatMap rk6)) (hn:l.length≤200000):
 Calls Tryz.prog 114 #[v] w fun e w'=>∃u,e=.returned u∧zae rk6 6 (fun k=>base≤k) w' u (dedR l)∧Tch (fun k=>v.ownBlock=some k) w w':=by
 have HOW:=Lib.hid hO;obtain⟨A,c,rfl,hc1,hc2,_⟩:=zac hO;by_cases h2:l.length<2
 ·have h2':(l.length:Int)<2:=by omega
  have HR:=Lib.hid (dedR_one l (by omega));clear hO;go_enter Tryz.func114,Tryz.ntmps114;go_wp2;(try simp only[Exit.inBlock,Exit.then]);(try rw[Exit.noGoto_ret]);go_ret;exact⟨_,rfl,by rw[HR.out];exact Row.own HOW.out (fun g hg=>(HOW.out.lt g hg).1),Tch.refl _ _⟩
 have h2':¬(l.length:Int)<2:=by omega
 obtain⟨g,rfl⟩:=ziq hO (by omega);have hgb:=(hO.lt g rfl).1;have hrow:zae rk6 6 (fun _=>True) w (.slice (some ⟨g,0,none⟩) l.length c) l:=Row.own hO (fun _ _=>trivial);have HL:=Lib.hid (fun w' (t9:Tf w w')=>hrow.keep t9);have HGB:=Lib.hid hgb;clear hO hrow hgb;go_enter Tryz.func114,Tryz.ntmps114;go_wp2_with fail;go_loopw [3] (fun i wr=>∃j:Nat,1≤j∧j≤l.length∧i=.int .i64 (j:Int)∧dedR (l.take j)=l.take j∧Tf w wr) (fun i _=>l.length-(intOf i).toNat)
 case atStart=>exact⟨1,Nat.le_refl _,by omega,rfl,dedR_one _ (by rw[List.length_take];omega),Tch.refl _ _⟩
 case round=>
  obtain⟨j,hj1,hj,rfl,hdd,ht⟩:=hrel;have HDD:=Lib.hid hdd;clear hdd;by_cases hlt:j<l.length
  ·have hlt':(j:Int)<(l.length:Int):=by omega
   have hj0:=znn j;have hl9:=HL.out wr ht;have hql:j-1<l.length:=by omega
   obtain⟨x0,x1,x2,x3,x4,x5⟩:=Row.six hl9 rk6_len hlt rfl;obtain⟨y0,y1,y2,y3,y4,y5⟩:=Row.six hl9 rk6_len hql rfl;have HTK:=Lib.hid (dedR_take hlt (by omega));have HTA:=Lib.hid (List.take_succ_eq_append_getElem hlt)
   obtain⟨a,ha⟩:∃a,l[j]=a:=⟨_,rfl⟩
   obtain⟨b,hb⟩:∃b,l[j-1]=b:=⟨_,rfl⟩
   rw[ha,hb]at HTK;rw[ha]at HTA x0 x1 x2 x3;rw[hb]at y0 y1 y2 y3;have HAB:=Lib.hid (⟨hlt,ha,hb⟩:∃h:j<l.length,l[j]=a∧l[j-1]'(by omega)=b);obtain⟨a1,a2,a3,a4⟩:=a;obtain⟨b1,b2,b3,b4⟩:=b;simp only[Nat.zero_add]at x0 x1 x2 x3 x4 x5 y0 y1 y2 y3 y4 y5
   have hcmp:∀w':World,(binOp .eql 115 (.agg #[.int .i64 a1,.int .i64 a2,.int .i64 a3,.int .i64 a4,.int .i64 0,.int .i64 0]) (.agg #[.int .i64 b1,.int .i64 b2,.int .i64 b3,.int .i64 b4,.int .i64 0,.int .i64 0])).run Tryz.prog w'=.ok (.bool (decide (((a1,a2,a3,a4):Rk4)=(b1,b2,b3,b4)))) w':=fun w'=>by
    rw[zsb];congr 2;rw[Bool.eq_iff_iff];simp[Prod.ext_iff,and_assoc]
   have HQ:=Lib.hid (show(0:Int)≤(j:Int)-1 by omega);have X0:=wc0 x0;have X1:=wc0 x1;have X2:=wc0 x2;have X3:=wc0 x3;have X4:=wc0 x4;have X5:=wc0 x5;have Y0:=wc0 y0;have Y1:=wc0 y1;have Y2:=wc0 y2;have Y3:=wc0 y3;have Y4:=wc0 y4;have Y5:=wc0 y5;clear hl9 x0 x1 x2 x3 x4 x5 y0 y1 y2 y3 y4 y5 ha hb;go_wp2_with fail;refine zai (fun _=>False) [] 9 [] [] trivial ?_;intro bef _;iterate 9 (refine zbt ?_;(try simp only[zaw]))
   refine za6 ?_;intro w7 hr _ _;have T7:=ht.trans ((Tch.drew (fun _=>False) wr).trans hr);clear X0 X1 X2 X3 X4 X5 Y0 Y1 Y2 Y3 Y4 Y5 hr ht;by_cases heq:((a1,a2,a3,a4):Rk4)=(b1,b2,b3,b4)
   rotate_left
   ·have HNE:=Lib.hid heq;have hcf:=decide_eq_false heq;rw[hcf]at hcmp;have HD2:=Lib.hid (show dedR (l.take (j+1))=l.take (j+1) by rw[HTK.out,if_neg HNE.out,HDD.out,HTA.out]);clear heq hcf;go_wp2;go_roundw
    case rel=>exact⟨j+1,by omega,by omega,by go_num,HD2.out,T7⟩
    case measure=>simp[intOf]<;>omega
   have hcf:=decide_eq_true heq;rw[hcf]at hcmp;have HEQ:=Lib.hid heq;clear hcf heq;have HO7:=Lib.hid (T7.own HOW.out (fun _ _=>id))
   obtain⟨cs,hcs,hBk,hct⟩:∃cs:List Value,cs.length=c*6∧Blk w7 g 115 cs.toArray∧cs.take (l.length*6)=l.flatMap rk6:=by
    rcases HO7.out.2 with⟨h9,_⟩|⟨g',cap,cur,hv,_,hg,_,_,hsz,ht⟩
    ·cases h9
    ·injection hv with e1 _ e3;injection e1 with e1;injection e1 with e1;subst e1 e3;exact⟨cur.toList,by rw[Array.length_toList];exact hsz,hg,ht⟩
   have hst:j=(dedR (l.take (j+1))).length∧cs.take (j*6)=(dedR (l.take (j+1))).flatMap rk6∧(cs.drop ((j+1-1)*6)).take ((l.length-(j+1-1))*6)=(l.drop (j+1-1)).flatMap rk6:=by
    have h7:l.flatMap rk6=(l.take j).flatMap rk6++(l.drop j).flatMap rk6:=by rw[←List.flatMap_append,List.take_append_drop]
    rw[HTK.out,if_pos HEQ.out,List.append_nil,HDD.out];refine⟨by rw[List.length_take];omega,?_,?_⟩
    ·have h8:=congrArg (List.take (j*6)) hct;rw[List.take_take,Nat.min_eq_left (by omega),h7,List.take_left' (by rw[zc5 rk6_len,List.length_take];omega)]at h8;exact h8
    ·have h8:=congrArg (List.drop (j*6)) hct;rw[h7,List.drop_left' (by rw[zc5 rk6_len,List.length_take];omega),List.drop_take]at h8;rw[Nat.add_sub_cancel,←h8];congr 1;omega
   have HST:=Lib.hid hst;clear hct hst;have hcl:(l.length:Int)≤200000:=by omega
   have hjl:((l.length-j:Nat):Int)=(l.length:Int)-(j:Int):=by omega
   go_wp2_with fail;go_loopw [3,5] (fun x3 x5 wr=>∃(i q:Nat) (cs:List Value),x3=.int .i64 (i:Int)∧x5=.int .i64 (q:Int)∧1≤q∧i≤j+q-1∧j+q≤l.length∧Blk wr g 115 cs.toArray∧cs.length=c*6∧(i=(dedR (l.take (j+q))).length∧cs.take (i*6)=(dedR (l.take (j+q))).flatMap rk6∧(cs.drop ((j+q-1)*6)).take ((l.length-(j+q-1))*6)=(l.drop (j+q-1)).flatMap rk6)∧Tch (fun k=>k=g) w7 wr) (fun _ x5 _=>l.length-j-(intOf x5).toNat)
   case atStart=>exact⟨j,1,cs,rfl,rfl,Nat.le_refl _,by omega,by omega,hBk,hcs,HST.out,Tch.refl _ _⟩
   case round=>
    obtain⟨i,q,cs,rfl,rfl,hq1,hiq,hjq,hB,hcs,hst,ht⟩:=hrel;have HST:=Lib.hid hst;have HCS:=Lib.hid hcs;have HIQ:=Lib.hid (⟨hq1,hiq⟩:_∧_);have HB:=Lib.hid hB;have HT:=Lib.hid ht;have hi0:=znn i;have hq0:=znn q;clear hst hcs hBk;by_cases hlq:j+q<l.length
    ·have hlq':(q:Int)<(l.length:Int)-(j:Int):=by omega
     have hd:=HST.out.2.2
     have hqa:∀r,r<6→wr.cell? ⟨g,(j+q-1)*6+r,none⟩=(rk6 l[j+q-1])[r]?:=fun r hr=>by
      rw[List.drop_eq_getElem_cons (show j+q-1<l.length by omega)]at hd;rw[hB.cell ((j+q-1)*6+r),List.getElem?_toArray];exact sixR_at hd hr
     have hqb:∀r,r<6→wr.cell? ⟨g,(j+q)*6+r,none⟩=(rk6 l[j+q])[r]?:=fun r hr=>by
      rw[List.drop_eq_getElem_cons (show j+q-1<l.length by omega),List.flatMap_cons]at hd;have h8:=congrArg (List.drop 6) hd;rw[List.drop_left' (rk6_len _),List.drop_take,List.drop_drop,show(j+q-1)*6+6=(j+q)*6 by omega,show j+q-1+1=j+q by omega,List.drop_eq_getElem_cons hlq]at h8;rw[hB.cell ((j+q)*6+r),List.getElem?_toArray];exact sixR_at h8 hr
     have hdr:(cs.drop ((j+q)*6)).take ((l.length-(j+q))*6)=(l.drop (j+q)).flatMap rk6:=by
      rw[List.drop_eq_getElem_cons (show j+q-1<l.length by omega),List.flatMap_cons]at hd;have h8:=congrArg (List.drop 6) hd;rw[List.drop_left' (rk6_len _),List.drop_take,List.drop_drop,show(j+q-1)*6+6=(j+q)*6 by omega,show j+q-1+1=j+q by omega]at h8;rw[←h8];congr 1;omega
     have HDR:=Lib.hid hdr;have HTK2:=Lib.hid (dedR_take hlq (by omega))
     obtain⟨p,hp⟩:∃p,l[j+q]=p:=⟨_,rfl⟩
     obtain⟨o,ho⟩:∃o,l[j+q-1]=o:=⟨_,rfl⟩
     rw[hp,ho]at HTK2;rw[ho]at hqa;rw[hp]at hqb;obtain⟨p1,p2,p3,p4⟩:=p;obtain⟨o1,o2,o3,o4⟩:=o;have e1:(j+q-1)*6=j*6+(q-1)*6:=by omega
     have e2:(j+q)*6=j*6+q*6:=by omega
     rw[e1]at hqa;rw[e2]at hqb;have x0:wr.cell? ⟨g,j*6+q*6,none⟩=some (.int .i64 p1):=hqb 0 (by decide);have x1:wr.cell? ⟨g,j*6+q*6+1,none⟩=some (.int .i64 p2):=hqb 1 (by decide);have x2:wr.cell? ⟨g,j*6+q*6+2,none⟩=some (.int .i64 p3):=hqb 2 (by decide);have x3:wr.cell? ⟨g,j*6+q*6+3,none⟩=some (.int .i64 p4):=hqb 3 (by decide);have x4:wr.cell? ⟨g,j*6+q*6+4,none⟩=some (.int .i64 0):=hqb 4 (by decide);have x5:wr.cell? ⟨g,j*6+q*6+5,none⟩=some (.int .i64 0):=hqb 5 (by decide);have y0:wr.cell? ⟨g,j*6+(q-1)*6,none⟩=some (.int .i64 o1):=hqa 0 (by decide);have y1:wr.cell? ⟨g,j*6+(q-1)*6+1,none⟩=some (.int .i64 o2):=hqa 1 (by decide);have y2:wr.cell? ⟨g,j*6+(q-1)*6+2,none⟩=some (.int .i64 o3):=hqa 2 (by decide);have y3:wr.cell? ⟨g,j*6+(q-1)*6+3,none⟩=some (.int .i64 o4):=hqa 3 (by decide);have y4:wr.cell? ⟨g,j*6+(q-1)*6+4,none⟩=some (.int .i64 0):=hqa 4 (by decide);have y5:wr.cell? ⟨g,j*6+(q-1)*6+5,none⟩=some (.int .i64 0):=hqa 5 (by decide)
     have hcm2:∀w':World,(binOp .neq 115 (.agg #[.int .i64 p1,.int .i64 p2,.int .i64 p3,.int .i64 p4,.int .i64 0,.int .i64 0]) (.agg #[.int .i64 o1,.int .i64 o2,.int .i64 o3,.int .i64 o4,.int .i64 0,.int .i64 0])).run Tryz.prog w'=.ok (.bool (!decide (((p1,p2,p3,p4):Rk4)=(o1,o2,o3,o4)))) w':=fun w'=>by
      have hqe:(p1==o1&&p2==o2&&p3==o3&&p4==o4&&((0:Int)==0&&(0:Int)==0))=decide (((p1,p2,p3,p4):Rk4)=(o1,o2,o3,o4)):=by
       rw[Bool.eq_iff_iff];simp[Prod.ext_iff,and_assoc]
      rw[run_neq_struct,eqRate,hqe];rfl
     have X0:=wc0 x0;have X1:=wc0 x1;have X2:=wc0 x2;have X3:=wc0 x3;have X4:=wc0 x4;have X5:=wc0 x5;have Y0:=wc0 y0;have Y1:=wc0 y1;have Y2:=wc0 y2;have Y3:=wc0 y3;have Y4:=wc0 y4;have Y5:=wc0 y5;have HX8:=Lib.hid (fun w8 (t:Tf wr w8)=>show(w8.cell? ⟨g,j*6+q*6,none⟩=some (.int .i64 p1)∧w8.cell? ⟨g,j*6+q*6+1,none⟩=some (.int .i64 p2)∧w8.cell? ⟨g,j*6+q*6+2,none⟩=some (.int .i64 p3)∧w8.cell? ⟨g,j*6+q*6+3,none⟩=some (.int .i64 p4)∧w8.cell? ⟨g,j*6+q*6+4,none⟩=some (.int .i64 0)∧w8.cell? ⟨g,j*6+q*6+5,none⟩=some (.int .i64 0))from⟨t.cell_some x0 id,t.cell_some x1 id,t.cell_some x2 id,t.cell_some x3 id,t.cell_some x4 id,t.cell_some x5 id⟩);have HQ1:=Lib.hid (show(0:Int)≤(q:Int)-1 by omega);clear hqa hqb hdr hd x0 x1 x2 x3 x4 x5 y0 y1 y2 y3 y4 y5 hp ho e1 e2;go_wp2_with fail;refine zai (fun _=>False) [] 9 [] [] trivial ?_;intro bef _;iterate 9 (refine zbt ?_;(try simp only[zaw]))
     refine za6 ?_;intro w8 hr _ _;have tr:=(Tch.drew (fun _=>False) wr).trans hr;have hB8:=hB.keep tr id;have hT8:=ht.trans (Exn.touch tr);have tr8:=tr;clear X0 X1 X2 X3 X4 X5 Y0 Y1 Y2 Y3 Y4 Y5 hr tr hB ht HB HT;by_cases heq:((p1,p2,p3,p4):Rk4)=(o1,o2,o3,o4)
     ·have hcf:=decide_eq_true heq;rw[hcf]at hcm2;rw[if_pos heq,List.append_nil]at HTK2;have HH:=Lib.hid (⟨hB8,hT8⟩:_∧_);clear hcf heq hB8 hT8;go_wp2;go_roundw
      case rel=>exact⟨i,q+1,cs,rfl,by go_num,by omega,by have:=HIQ.out;omega,by omega,HH.out.1,HCS.out,⟨by rw[show j+(q+1)=j+q+1 by omega,HTK2.out];exact HST.out.1,by rw[show j+(q+1)=j+q+1 by omega,HTK2.out];exact HST.out.2.1,by rw[show j+(q+1)-1=j+q by omega];exact HDR.out⟩,HH.out.2⟩
      case measure=>have:=hlq;simp[intOf]<;>omega
     ·have hcf:=decide_eq_false heq;rw[hcf]at hcm2;rw[if_neg heq]at HTK2;have hi6:i*6=(cs.take (i*6)).length:=by rw[List.length_take,HCS.out];have:=HIQ.out;omega
      have hm6:((cs.drop (i*6)).take 6).length=6:=by rw[List.length_take,List.length_drop,HCS.out];have:=HIQ.out;omega
      have HI6:=Lib.hid hi6;have HM6:=Lib.hid hm6
      have HBB:=Lib.hid (show Blk w8 g 115 (cs.take (i*6)++(cs.drop (i*6)).take 6++cs.drop (i*6+6)).toArray by
       rw[List.append_assoc,←List.drop_drop,List.take_append_drop,List.take_append_drop]
       exact hB8)
      obtain⟨x0,x1,x2,x3,x4,x5⟩:(w8.cell? ⟨g,j*6+q*6,none⟩=some (.int .i64 p1)∧w8.cell? ⟨g,j*6+q*6+1,none⟩=some (.int .i64 p2)∧w8.cell? ⟨g,j*6+q*6+2,none⟩=some (.int .i64 p3)∧w8.cell? ⟨g,j*6+q*6+3,none⟩=some (.int .i64 p4)∧w8.cell? ⟨g,j*6+q*6+4,none⟩=some (.int .i64 0)∧w8.cell? ⟨g,j*6+q*6+5,none⟩=some (.int .i64 0)):=HX8.out w8 tr8;have hil:(i:Int)<(l.length:Int):=by have:=HIQ.out;omega
      have HT8:=Lib.hid hT8;clear hcf heq hi6 hm6 hB8 hT8 tr8;go_wp2_with (refine zdp rfl _ _ _ rfl g (i*6) (cs.take (i*6)) ((cs.drop (i*6)).take 6) [.int .i64 p1,.int .i64 p2,.int .i64 p3,.int .i64 p4,.int .i64 0,.int .i64 0] (cs.drop (i*6+6)) HI6.out (by rfl) (by rfl) (by simp[Value.oneCell']) (by kernel_rfl) HM6.out HBB.out ?_;refine Hid.out ?_);refine Lib.hid ?_;intro w9 hB9 t9;have HB9:=Lib.hid hB9;have HT9:=Lib.hid (HT8.out.trans t9);clear hB9 t9 x0 x1 x2 x3 x4 x5;go_wp2;go_roundw
      case rel=>
       refine⟨i+1,q+1,cs.take (i*6)++[.int .i64 p1,.int .i64 p2,.int .i64 p3,.int .i64 p4,.int .i64 0,.int .i64 0]++cs.drop (i*6+6),by go_num,by go_num,by omega,by have:=HIQ.out;omega,by omega,by simpa using HB9.out,?_,⟨?_,?_,?_⟩,HT9.out⟩
       ·rw[List.length_append,List.length_append,←HI6.out,List.length_drop,HCS.out];simp only[List.length_cons,List.length_nil];have:=HIQ.out;omega
       ·rw[show j+(q+1)=j+q+1 by omega,HTK2.out,List.length_append,←HST.out.1];rfl
       ·rw[List.take_left' (by rw[List.length_append,←HI6.out];simp only[List.length_cons,List.length_nil];omega),show j+(q+1)=j+q+1 by omega,HTK2.out,List.flatMap_append,←HST.out.2.1];rfl
       ·rw[show j+(q+1)-1=j+q by omega,show(j+q)*6=(i*6+6)+((j+q)*6-(i*6+6)) by have:=HIQ.out;omega,←List.drop_drop,List.drop_left' (by rw[List.length_append,←HI6.out];rfl),List.drop_drop,show(i*6+6)+((j+q)*6-(i*6+6))=(j+q)*6 by have:=HIQ.out;omega];exact HDR.out
      case measure=>have:=hlq;simp[intOf]<;>omega
    ·have hlq':¬(q:Int)<(l.length:Int)-(j:Int):=by omega
     have hjl':j+q=l.length:=by omega
     have hst:=HST.out;rw[hjl',List.take_length]at hst;have HI6:=Lib.hid (show(cs.take (i*6)).length=i*6 by rw[List.length_take,HCS.out];have:=HIQ.out;omega);have HM6:=Lib.hid (show((cs.drop (i*6)).take ((l.length-i)*6)).length=(l.length-i)*6 by rw[List.length_take,List.length_drop,HCS.out];have:=HIQ.out;omega)
     have HBB:=Lib.hid (show Blk wr g 115 (cs.take (i*6)++(cs.drop (i*6)).take ((l.length-i)*6)++(cs.drop (i*6)).drop ((l.length-i)*6)).toArray by
      rw[List.append_assoc,List.take_append_drop,List.take_append_drop]
      exact hB)
     have HNI:=Lib.hid (show 0<l.length-i by have:=HIQ.out;omega);have HIC:=Lib.hid (show i≤l.length by have:=HIQ.out;omega);have HST2:=Lib.hid hst;have hil:(i:Int)≤(l.length:Int):=by have:=HIQ.out;omega
     clear hB ht HB hst hjl' hlq hjl;go_wp2_with (refine z1s rfl _ _ rfl Tryz.underlying25 (z:=.agg #[.int .i64 0,.int .i64 0,.int .i64 0,.int .i64 0,.int .i64 0,.int .i64 0]) (fun w=>by kernel_rfl) (k:=6) rfl (fun u hu=>by simp[Value.cells]at hu;rcases hu with rfl<;>rfl) (off:=i*6) (pre:=cs.take (i*6)) (mid:=(cs.drop (i*6)).take ((l.length-i)*6)) HI6.out.symm (by rfl) HNI.out HM6.out HBB.out ?_;refine Hid.out ?_);refine Lib.hid ?_;intro w9 zs hzs hB9 t9;have HB9:=Lib.hid hB9;have HT9:=Lib.hid (HT.out.trans t9);have HT7:=Lib.hid T7;clear hB9 t9 hzs T7;go_wp2;(try simp only[Exit.inBlock,Exit.then]);(try rw[Exit.noGoto_ret]);go_ret;refine⟨_,rfl,?_,?_⟩
     ·refine⟨some ⟨g,0,none⟩,c,by rw[←HST2.out.1];rfl,by rw[←HST2.out.1];have:=HIC.out;omega,hc2,zc5 rk6_len _,(fun h=>by cases h),fun _=>⟨g,0,rfl,⟨HGB.out,HB9.out.lt⟩,fun m u hu=>?_⟩⟩;rw[Nat.zero_add,HB9.out.cell m,List.getElem?_toArray];(try rw[List.append_assoc]);rw[List.getElem?_append_left (by rw[HST2.out.2.1];exact(List.getElem?_eq_some_iff.1 hu).1),HST2.out.2.1];exact hu
     ·exact(Exn.touch HT7.out).trans (HT9.out.mono fun i _ hi=>by have hi:i=g:=hi;rw[hi];rfl)
  ·obtain rfl:j=l.length:=by omega
   have hlt':¬(l.length:Int)<(l.length:Int):=by omega
   have HT:=Lib.hid ht;clear ht;rw[List.take_length]at HDD;go_wp2;go_ret;exact⟨_,rfl,by rw[HDD.out];exact Row.own (HT.out.own HOW.out (fun _ _=>id)) (fun k hk=>(HOW.out.lt k hk).1),Exn.touch HT.out⟩
end Go.Proofs.YtoegobjnjljegaaGreatDoor
namespace Go.Gk.V39
open Go.RowKit Go.Gk Go.Gk.V33 Go.Gk.V37 Go.Gk.V38
def rkV (o:Option Rk4):List Value:=match o with
 |some k=>rk6 k
 |none=>[.int .i64 0,.int .i64 0,.int .i64 0,.int .i64 0,.int .i64 0,.int .i64 0]
def RatesAns (b:Bks) (c:Rt6) (K:List Rk4) (er:Int):Prop:=er=za3 c b.ents.length b.accs.length∧(er≠0→K=[])∧(er=0→(K.Pairwise fun x y=>Go.Proofs.ltOf cmpR x y=true)∧∀k,k∈K↔∃d,Need b [c] d∧rkOf b d=some k)
theorem rates_bad {b:Bks} {c:Rt6} {er:Int} (h:za3 c b.ents.length b.accs.length=er) (h0:er≠0):RatesAns b c [] er:=⟨h.symm,fun _=>rfl,fun h9=>absurd h9 h0⟩
def rkL (b:Bks) (L:List Rt6):List Rk4:=L.filterMap (rkOf b)
theorem rates_ok {b:Bks} {c:Rt6} {L:List Rt6} (h:za3 c b.ents.length b.accs.length=0) (hL:NeedSet b c L):RatesAns b c (dedR (sortR (rkL b L))) 0:=by
 refine⟨h.symm,fun h9=>absurd rfl h9,fun _=>⟨dedR_up _ rfl (sortR_le _),fun k=>?_⟩⟩;rw[(dedR_last _ rfl).2.2,(sortR_perm _).mem_iff];unfold rkL;rw[List.mem_filterMap];exact⟨fun⟨d,h1,h2⟩=>⟨d,(hL.mem d).1 h1,h2⟩,fun⟨d,h1,h2⟩=>⟨d,(hL.mem d).2 h1,h2⟩⟩
def rkR (b:Bks) (k:Rk4):Rt6:=(k.1,k.2.1,k.2.2.1,k.2.2.2,(zee b.rates k.1 k.2.1 k.2.2.1 k.2.2.2).1)
def knownOf (b:Bks) (K:List Rk4):List Rt6:=(K.filter (hasR b)).map (rkR b)
def missOf (b:Bks) (K:List Rk4):List Rk4:=K.filter fun k=>!hasR b k
theorem known_step {b:Bks} {K:List Rk4} {j:Nat} (h:j<K.length):knownOf b (K.take (j+1))=knownOf b (K.take j)++(if hasR b K[j]=true then[rkR b K[j]]else[])∧missOf b (K.take (j+1))=missOf b (K.take j)++(if hasR b K[j]=true then[]else[K[j]]):=by
 unfold knownOf missOf;rw[List.take_succ_eq_append_getElem h,List.filter_append,List.filter_append,List.map_append];by_cases hh:hasR b K[j]=true
 ·simp[hh]
 ·simp[hh]
end Go.Gk.V39
namespace Go.Proofs.YtoegobjnjljegaaGreatDoor
open Go.RowKit Go.Gk Go.Gk.V33 Go.Gk.V37 Go.Gk.V38 Go.Gk.V39
section
variable {w:World} {bv bi B t mr mp:Nat} {e a s r l n lv:Value} {fs:List Value} {b:Bks} {us:List (Ent×Value)}
theorem frate_any (h:Vw w bv bi B t mr mp e a s r l n lv fs b us) (hn:(zag b.accs).length≤1000) (c1 c2 c3 c4 c5 c6:Int):
 Calls Tryz.prog 111 #[.pointer (some ⟨bv,0,none⟩),.agg #[.int .i64 c1,.int .i64 c2,.int .i64 c3,.int .i64 c4,.int .i64 c5,.int .i64 c6]] w fun x w'=>x=.returned (.tuple #[.agg (rkV (rkOf b (c1,c2,c3,c4,c5,c6))).toArray,.bool (rkOf b (c1,c2,c3,c4,c5,c6)).isSome])∧Tf w w':=by
 obtain⟨W,hW,tw,bC,bR⟩:=al2 w #[.int .i64 c1,.int .i64 c2,.int .i64 c3,.int .i64 c4,.int .i64 c5,.int .i64 c6] #[.int .i64 0,.int .i64 0,.int .i64 0,.int .i64 0,.int .i64 0,.int .i64 0] 31 115;have HC:=Lib.hid (zmx (h.keep tw) c2);have HL:=Lib.hid (zdx (h.keep tw) hn c3);rw[zb9]at HL;have HV:=Lib.hid (fun w' (t9:Tf w w')=>h.keep t9);obtain⟨g0,g1,g2,g3,g4,g5⟩:=bC.f6
 obtain⟨cur,hcur⟩:∃cur,zgg b c2=cur:=⟨_,rfl⟩
 have HRK:=Lib.hid (show rkOf b (c1,c2,c3,c4,c5,c6)=if c1=3∧c3≠1∧c5≠cur∧zas b.accs c3=true then some (cur,c5,zei b c3,c4)else none by rw[←hcur];rfl);rw[hcur]at HC;generalize rkOf b (c1,c2,c3,c4,c5,c6)=R at *;have HTW:=Lib.hid tw;clear h hcur;by_cases hy:c1=3∧c3≠1∧c5≠cur
 rotate_left
 ·obtain rfl:none=R:=by rw[HRK.out,if_neg (fun h9=>hy ⟨h9.1,h9.2.1,h9.2.2.1⟩)]
  unfold rkV;have HB:=Lib.hid bR;go_enter Tryz.func111,Tryz.ntmps111;go_wp2_with fail;refine HC.out.mono ?_;rintro _ _ ⟨rfl,rfl⟩;clear HC HL
  have hcs:(c1 !=3)=true∨((c1 !=3)=false∧(c3==1)=true)∨((c1 !=3)=false∧(c3==1)=false∧(c5==cur)=true):=by
   by_cases p1:c1=3
   ·by_cases p2:c3=1
    ·exact .inr (.inl ⟨by simpa using p1,by simpa using p2⟩)
    ·have p3:c5=cur:=by false_or_by_contra;rename_i h9;exact hy ⟨p1,p2,h9⟩
     exact .inr (.inr ⟨by simpa using p1,by simpa using p2,by simpa using p3⟩)
   ·exact .inl (by simpa using p1)
  clear hy
  rcases hcs with p1|⟨p1,p2⟩|⟨p1,p2,p3⟩
  all_goals
   go_wp2_with (refine stK (w.heap.size+1) #[.int .i64 0,.int .i64 0,.int .i64 0,.int .i64 0,.int .i64 0,.int .i64 0] HB.out ?_);intro w9 hF tF;have HBF:=Lib.hid hF;have TT:=Lib.hid ((HTW.out).trans' (F':=fun k=>k=w.heap.size+1) tF (fun i hi=>.inr (by have hi:i=w.heap.size+1:=hi;omega)));clear hF tF;go_wp2;(try simp only[exS]);refine zbi HBF.out ?_;exact⟨rfl,TT.out⟩
 obtain⟨rfl,h1,h2⟩:=hy;have p2:(c3==1)=false:=by simpa using h1
 have p3:(c5==cur)=false:=by simpa using h2
 by_cases hlf:zas b.accs c3=true
 rotate_left
 ·obtain rfl:none=R:=by rw[HRK.out,if_neg (fun h9=>hlf h9.2.2.2)]
  have hlf2:zas b.accs c3=false:=by simpa using hlf
  rw[hlf2]at HL;unfold rkV;have HBR:=Lib.hid (fun w' (t9:Tf W w')=>bR.keep t9 id);clear hlf hlf2 HRK bR h1 h2;go_enter Tryz.func111,Tryz.ntmps111;go_wp2_with fail;refine HC.out.mono ?_;rintro _ _ ⟨rfl,rfl⟩;clear HC;go_wp2_with fail;refine HL.out.mono ?_;rintro _ w2 ⟨rfl,t2⟩;have bR2:=HBR.out _ t2;have HB:=Lib.hid bR2;have HT:=Lib.hid (HTW.out.trans t2);clear HL bR2 HBR;go_wp2_with (refine stK (w.heap.size+1) #[.int .i64 0,.int .i64 0,.int .i64 0,.int .i64 0,.int .i64 0,.int .i64 0] HB.out ?_);intro w9 hF tF;have HBF:=Lib.hid hF;have TT:=Lib.hid ((HT.out).trans' (F':=fun k=>k=w.heap.size+1) tF (fun i hi=>.inr (by have hi:i=w.heap.size+1:=hi;omega)));clear hF tF;go_wp2;(try simp only[exS]);refine zbi HBF.out ?_;exact⟨rfl,TT.out⟩
 obtain rfl:some (cur,c5,zei b c3,c4)=R:=by rw[HRK.out,if_pos ⟨rfl,h1,h2,hlf⟩]
 obtain⟨k,hk,rfl,hkg⟩:=zd4 hlf;have HAC:=Lib.hid (fun w' (t9:Tf w w')=>zdn (HV.out w' t9) hk _ rfl);have HKD:=Lib.hid (show zei b ((k:Int)+1)=b.accs[k].2.1 by unfold zei;rw[hkg];rfl);rw[HKD.out];rw[hlf]at HL;have HBR:=Lib.hid (fun w' (t9:Tf W w')=>bR.keep t9 id);have HBC:=Lib.hid (fun w' (t9:Tf W w')=>bC.keep t9 id);generalize b.accs[k]=ac at *;obtain⟨a1,a2,a3,a4⟩:=ac;unfold rkV rk6;simp only at HAC⊢;unfold zfq at HAC;simp only at HAC;clear hlf HRK bR bC h1 h2 hkg HKD;go_enter Tryz.func111,Tryz.ntmps111;go_wp2_with fail;refine HC.out.mono ?_;rintro _ _ ⟨rfl,rfl⟩;clear HC;go_wp2_with fail;refine HL.out.mono ?_;rintro _ w2 ⟨rfl,t2⟩;obtain⟨g0,g1,g2,g3,g4,g5⟩:=(HBC.out _ t2).f6;have HAC2:=Lib.hid (HAC.out _ (HTW.out.trans t2));clear HL HAC;go_wp2_with fail;refine HAC2.out.mono ?_;rintro _ w3 ⟨rfl,t3⟩;have tA:=tal w3 (.cells #[.int .i64 a1,.int .i64 a2,.bool a3,.bool a4] 91);obtain⟨d0,d1,d2,d3⟩:=(Blk.new w3 91 #[.int .i64 a1,.int .i64 a2,.bool a3,.bool a4]).f4;have t4:=(t2.trans t3).trans tA;have HB:=Lib.hid (HBR.out _ t4);have HT:=Lib.hid (HTW.out.trans t4);obtain⟨g0,g1,g2,g3,g4,g5⟩:=(HBC.out _ t4).f6;clear HAC2 HBR HBC t2 t3 tA t4;go_wp2_with (refine stK (w.heap.size+1) #[.int .i64 cur,.int .i64 c5,.int .i64 a2,.int .i64 c4,.int .i64 0,.int .i64 0] HB.out ?_);intro w9 hF tF;have HBF:=Lib.hid hF;have TT:=Lib.hid ((HT.out).trans' (F':=fun k=>k=w.heap.size+1) tF (fun i hi=>.inr (by have hi:i=w.heap.size+1:=hi;omega)));clear hF tF;go_wp2;(try simp only[exS]);refine zbi HBF.out ?_;exact⟨rfl,TT.out⟩
theorem rates39_any (h:Vw w bv bi B t mr mp e a s r l n lv fs b us) (F:RuleFacts b) (hpl:(zay b.entries).length≤3000) (hE:b.ents.length≤6) (hA:b.accs.length≤9) (hT:Tab64 0 w) (c1 c2 c3 c4 c5 c6:Int) (hp3:c4≤3):
 Calls Tryz.prog 48 #[.pointer (some ⟨bv,0,none⟩),.agg #[.int .i64 c1,.int .i64 c2,.int .i64 c3,.int .i64 c4,.int .i64 c5,.int .i64 c6]] w fun x w'=>∃(K:List Rk4) (u1 u2:Value) (er:Int),x=.returned (.tuple #[u1,u2,.int .i64 er])∧zae za2 6 (fun _=>True) w' u1 (knownOf b K)∧zae rk6 6 (fun _=>True) w' u2 (missOf b K)∧Tf w w'∧RatesAns b (c1,c2,c3,c4,c5,c6) K er:=by
 have tw:=tal w (.cells #[.int .i64 c1,.int .i64 c2,.int .i64 c3,.int .i64 c4,.int .i64 c5,.int .i64 c6] 31);have bC:=Blk.new w 31 #[.int .i64 c1,.int .i64 c2,.int .i64 c3,.int .i64 c4,.int .i64 c5,.int .i64 c6];have HV:=Lib.hid (fun w' (t9:Tf w w')=>h.keep t9);have HTT:=Lib.hid (fun w' (t9:Tf w w')=>hT.keep t9);have HREC:=Lib.hid (zga (h.keep tw) F (hT.keep tw) c1 c2 c3 c4 c5 c6);have HRE:=Lib.hid (zz8 (b:=b) (c:=(c1,c2,c3,c4,c5,c6)));have HNS:=Lib.hid (fun h0 L er=>@small_needs b (c1,c2,c3,c4,c5,c6) F.hok hE hA hp3 h0 L er);have HFR:=Lib.hid F;obtain⟨g0,g1,g2,g3,g4,g5⟩:=bC.f6;clear h hT hE hA hp3;go_enter Tryz.func48,Tryz.ntmps48;go_wp2_with fail;generalize w.alloc (.cells #[.int .i64 c1,.int .i64 c2,.int .i64 c3,.int .i64 c4,.int .i64 c5,.int .i64 c6] 31)=W at *;generalize hzw:w.heap.size=z at *;refine HREC.out.mono ?_;rintro _ w1 ⟨v1,rfl,hr1,t1⟩;clear HREC
 obtain⟨RQ,hRQ⟩:∃q,zfg b (c1,c2,c3,c4,c5,c6)=q:=⟨_,rfl⟩
 rw[hRQ]at hr1 HRE;obtain⟨R,er⟩:=RQ;simp only at hr1 HRE;rw[hRQ];clear hRQ;obtain⟨⟨b1,b2⟩,pl,mi,⟨s1,s2,s3,s4,s5,s6⟩,rd,⟨r1,r2⟩,hs⟩:=R;obtain⟨p1,m1,rfl,hp1,hm1⟩:=hr1;obtain⟨P1,k1,rfl,_,_⟩:=hp1.form;obtain⟨M1,d1,rfl,_,_⟩:=hm1.form;unfold z4g;simp only;by_cases her:er=0
 rotate_left
 ·have tG:=tal w1 (.cells #[.int .i64 b1,.int .i64 b2,.slice P1 pl.length k1,.slice M1 mi.length d1,.int .i64 s1,.int .i64 s2,.int .i64 s3,.int .i64 s4,.int .i64 s5,.int .i64 s6,.bool rd,.int .i64 r1,.int .i64 r2,.bool hs] 48);have HT1:=Lib.hid (tw.trans (t1.trans tG));have hx:(er !=0)=true:=by simpa using her
  have HA:=Lib.hid (rates_bad HRE.out.symm her);clear her g0 g1 g2 g3 g4 g5 hp1 hm1 tG t1 bC tw;go_wp2;(try simp only[exS]);refine bodyPost_ret (results_tmp3 rfl _ _ _) rfl ?_;exact⟨[],_,_,_,rfl,Row.nil _ _ _,Row.nil _ _ _,HT1.out,HA.out⟩
 subst her;obtain⟨W1,hW1,tG,bR,bL⟩:=al2 w1 #[.int .i64 b1,.int .i64 b2,.slice P1 pl.length k1,.slice M1 mi.length d1,.int .i64 s1,.int .i64 s2,.int .i64 s3,.int .i64 s4,.int .i64 s5,.int .i64 s6,.bool rd,.int .i64 r1,.int .i64 r2,.bool hs] #[.int .i64 c1,.int .i64 c2,.int .i64 c3,.int .i64 c4,.int .i64 c5,.int .i64 c6] 48 31;have tR:=tal w1 (.cells #[.int .i64 b1,.int .i64 b2,.slice P1 pl.length k1,.slice M1 mi.length d1,.int .i64 s1,.int .i64 s2,.int .i64 s3,.int .i64 s4,.int .i64 s5,.int .i64 s6,.bool rd,.int .i64 r1,.int .i64 r2,.bool hs] 48);have bC1:=(bC.keep t1 id).keep tR id;have T1:=tw.trans (t1.trans tG);obtain⟨f0,f1,f2,f3,f4,f5⟩:=bC1.f6;have hr:zae za2 6 (fun _=>True) W1 (.slice (some ⟨w1.heap.size+1,0,none⟩) 1 1) [(c1,c2,c3,c4,c5,c6)]:=Row.own (z0z (base:=0) (size:=6) (n:=1) bL (Nat.zero_le _) rfl (by decide)) (fun _ _=>trivial);have HN:=Lib.hid (zz3 (HV.out W1 T1) F hpl (HTT.out W1 T1) hr (by simp) 20000);have HBN:=Lib.hid (HNS.out HRE.out.symm);clear g0 g1 g2 g3 g4 g5 hp1 hm1 tG t1 bC bC1 bR bL hr tR HNS;go_wp2_with fail;refine HN.out.mono ?_;rintro _ w2 ⟨L,u,er,rfl,hO,hA⟩;clear HN;obtain⟨A2,k2,rfl,_,_⟩:=hO.form;obtain⟨rfl,hbn⟩:=HBN.out L er hA;have T2:=T1.trans hO.tch;have hLl:=hbn.len;have HRA:=Lib.hid (rates_ok HRE.out.symm hbn);have HT2:=Lib.hid T2;have HLR:=Lib.hid (fun wr (ht:Tf w2 wr)=>hO.row.keep ht);clear f0 f1 f2 f3 f4 f5 HBN hW1 hA T1 T2 hO hbn tw;go_wp2_with fail;go_loopw [10,40] (fun v i wr=>∃(j:Nat) (ks:List Rk4),j≤L.length∧i=.int .i64 (j:Int)∧rkL b (L.take j)=ks∧ks.length≤j∧Outs rk6 6 115 w2 wr v ks) (fun _ i _=>L.length-(intOf i).toNat)
 case atStart=>exact⟨0,[],Nat.zero_le _,rfl,rfl,Nat.le_refl _,Outs.start _ _ _ (Tch.refl _ _)⟩
 case round=>
  obtain⟨j,ks,hj,rfl,hks,hkl,hO⟩:=hrel;obtain⟨AK,kK,rfl,_,_⟩:=hO.form;have HKS:=Lib.hid hks;have HKL:=Lib.hid hkl;have hj0:=znn j;clear hks;by_cases hlt:j<L.length
  ·have hlt':(j:Int)<(L.length:Int):=by omega
   have hl9:=HLR.out wr hO.tch;obtain⟨gl,ol,rfl⟩:=hl9.head (by omega);obtain⟨q0,q1,q2,q3,q4,q5⟩:=Row.six hl9 zd3 hlt rfl
   have HNX:=Lib.hid (show rkL b (L.take (j+1))=ks++(rkOf b L[j]).toList by
    have e1:=HKS.out;unfold rkL at e1⊢;rw[List.take_succ_eq_append_getElem hlt,List.filterMap_append,e1]
    cases hq:rkOf b L[j]<;>simp[hq])
   generalize L[j]=dd at *;obtain⟨d1,d2,d3,d4,d5,d6⟩:=dd;simp only at q0 q1 q2 q3 q4 q5;have tD:=tal wr (.cells #[.int .i64 d1,.int .i64 d2,.int .i64 d3,.int .i64 d4,.int .i64 d5,.int .i64 d6] 31);have bD:=Blk.new wr 31 #[.int .i64 d1,.int .i64 d2,.int .i64 d3,.int .i64 d4,.int .i64 d5,.int .i64 d6];obtain⟨z0,z1,z2,z3,z4,z5⟩:=bD.f6;have hOD:=hO.keep tD;have HFT:=Lib.hid (frate_any (HV.out _ (HT2.out.trans hOD.tch)) F.hn d1 d2 d3 d4 d5 d6);generalize rkOf b (d1,d2,d3,d4,d5,d6)=o at *;clear hl9 bD tD hO
   cases o with
   |none=>
    unfold rkV at HFT;go_wp2_with fail;generalize wr.alloc (.cells #[.int .i64 d1,.int .i64 d2,.int .i64 d3,.int .i64 d4,.int .i64 d5,.int .i64 d6] 31)=wa at *;refine HFT.out.mono ?_;rintro _ w4 ⟨rfl,t4⟩;have hO4:=(hOD.keep t4).keep (tal w4 (.cells #[.int .i64 0,.int .i64 0,.int .i64 0,.int .i64 0,.int .i64 0,.int .i64 0] 115));have HO4:=Lib.hid hO4;clear HFT hOD t4 hO4 q0 q1 q2 q3 q4 q5 z0 z1 z2 z3 z4 z5;go_wp2;go_roundw
    case rel=>exact⟨j+1,ks,by omega,by go_num,by rw[HNX.out];simp,by have:=HKL.out;omega,HO4.out⟩
    case measure=>simp[intOf];omega
   |some k=>
    obtain⟨x1,x2,x3,x4⟩:=k;unfold rkV rk6 at HFT;simp only at HFT;go_wp2_with fail;generalize wr.alloc (.cells #[.int .i64 d1,.int .i64 d2,.int .i64 d3,.int .i64 d4,.int .i64 d5,.int .i64 d6] 31)=wa at *;refine HFT.out.mono ?_;rintro _ w4 ⟨rfl,t4⟩;obtain⟨y0,y1,y2,y3,y4,y5⟩:=(Blk.new w4 115 #[.int .i64 x1,.int .i64 x2,.int .i64 x3,.int .i64 x4,.int .i64 0,.int .i64 0]).f6;have hO4:=(hOD.keep t4).keep (tal w4 (.cells #[.int .i64 x1,.int .i64 x2,.int .i64 x3,.int .i64 x4,.int .i64 0,.int .i64 0] 115));clear HFT hOD t4 q0 q1 q2 q3 q4 q5 z0 z1 z2 z3 z4 z5;have hO5:=hO4.keep (tal (w4.alloc (.cells #[.int .i64 x1,.int .i64 x2,.int .i64 x3,.int .i64 x4,.int .i64 0,.int .i64 0] 115)) (.cells #[.int .i64 x1,.int .i64 x2,.int .i64 x3,.int .i64 x4,.int .i64 0,.int .i64 0] 115));have HBE:=Lib.hid (fun m9=>(Blk.new2 w4 (.cells #[.int .i64 x1,.int .i64 x2,.int .i64 x3,.int .i64 x4,.int .i64 0,.int .i64 0] 115) 115 #[.int .i64 x1,.int .i64 x2,.int .i64 x3,.int .i64 x4,.int .i64 0,.int .i64 0]).cell m9);have hkb:ks.length≤20000:=by omega
    clear hO4;go_wp2_with (at_builtin;refine Hid.out ?_);refine Lib.hid ?_;refine apd rowRt hO5.own (Go.Gk.Src.one (news:=rk6 (x1,x2,x3,x4)) rfl (fun m9 u9 hu9=>by rw[HBE.out m9];simpa[rk6]using hu9)) (by simp[rk6,Value.oneCell']) ?_;intro v2 w5 ho2 hg2 hl2;have hO6:=Lib.hid (hO5.step (x:=(x1,x2,x3,x4)) (Tch.refl _ _) ho2 hg2 (fun g hg=>by simpa using hl2 g hg));obtain⟨O2,co2,rfl,_,_⟩:=zac ho2;clear hO5 ho2 hg2 hl2 HBE y0 y1 y2 y3 y4 y5;go_wp2;go_roundw
    case rel=>exact⟨j+1,ks++[(x1,x2,x3,x4)],by omega,by go_num,by rw[HNX.out];rfl,by rw[List.length_append,List.length_singleton];have:=HKL.out;omega,hO6.out⟩
    case measure=>simp[intOf];omega
  ·obtain rfl:j=L.length:=by omega
   have hlt':¬(L.length:Int)<(L.length:Int):=by omega
   have hks:=HKS.out;rw[List.take_length]at hks;have HSO:=Lib.hid (sortR_any hO (by omega));rw[←hks]at HSO;rw[hks]at HRA HSO;clear hO;go_wp2_with fail;refine HSO.out.mono ?_;rintro _ w5 ⟨rfl,hO5⟩;have hsl:=sortR_len ks;have HCP:=Lib.hid (compactR_any hO5.own (by omega));clear HSO;rw[←hsl];go_wp2_with fail;refine HCP.out.mono ?_;rintro _ w6 ⟨u6,rfl,hr6,t6⟩;have T6:=hO5.tch.trans' t6 (fun i hi=>.inr (hO5.own.lt i hi).1)
   obtain⟨K,hK⟩:∃K,dedR (sortR ks)=K:=⟨_,rfl⟩
   have hKl:K.length≤20000:=by
    have:=(dedR_last _ (l:=sortR ks) rfl).2.1;rw[hK]at this;omega
   rw[hK]at hr6 HRA;have HT6:=Lib.hid (HT2.out.trans T6);have HKR:=Lib.hid (fun wr (ht:Tf w6 wr)=>hr6.keep ht);obtain⟨A6,k6,rfl,_,_⟩:=hr6.form;have hz6:=T6.size;clear HCP hr6 t6 T6 hO5 hK HKS HLR hj hlt hlt' hks;go_wp2_with fail;go_loopw [4,5,61] (fun v1 v2 i wr=>∃(j:Nat) (xs:List Rt6) (ys:List Rk4),j≤K.length∧i=.int .i64 (j:Int)∧knownOf b (K.take j)=xs∧missOf b (K.take j)=ys∧xs.length≤j∧ys.length≤j∧wr.ownsRow w6.heap.size 115 6 v1 xs.length (xs.flatMap za2)∧wr.ownsRow w6.heap.size 115 6 v2 ys.length (ys.flatMap rk6)∧(∀k,v1.ownBlock=some k→v2.ownBlock=some k→False)∧Tf w6 wr) (fun _ _ i _=>K.length-(intOf i).toNat)
   case atStart=>exact⟨0,[],[],Nat.zero_le _,rfl,rfl,rfl,Nat.le_refl _,Nat.le_refl _,World.ownsRow_nil _ _ _ _,World.ownsRow_nil _ _ _ _,(fun k h=>by cases h),Tch.refl _ _⟩
   case round=>
    obtain⟨j,xs,ys,hj,rfl,hxs,hys,hxl,hyl,hO1,hO2,hdj,ht⟩:=hrel;obtain⟨AX,kX,rfl,_,_,_⟩:=zac hO1;obtain⟨AY,kY,rfl,_,_,_⟩:=zac hO2;have hj0:=znn j;by_cases hlt:j<K.length
    ·have hlt':(j:Int)<(K.length:Int):=by omega
     have hl9:=HKR.out wr ht;obtain⟨gl,ol,rfl⟩:=hl9.head (by omega);obtain⟨p0,p1,p2,p3,p4,p5⟩:=Row.six hl9 rk6_len hlt rfl;have HNX:=Lib.hid (known_step (b:=b) hlt);rw[hxs,hys]at HNX;have HXY:=Lib.hid (⟨hxl,hyl⟩:_∧_);generalize K[j]=kk at *;obtain⟨y1,y2,y3,y4⟩:=kk;simp only at p0 p1 p2 p3;have tD:=tal wr (.cells #[.int .i64 y1,.int .i64 y2,.int .i64 y3,.int .i64 y4,.int .i64 0,.int .i64 0] 115);have bD:=Blk.new wr 115 #[.int .i64 y1,.int .i64 y2,.int .i64 y3,.int .i64 y4,.int .i64 0,.int .i64 0];obtain⟨z0,z1,z2,z3,z4,z5⟩:=bD.f6;have HVR:=Lib.hid (zvd (HV.out _ (HT6.out.trans (ht.trans tD))) F.hr (HTT.out _ (HT6.out.trans (ht.trans tD))) y1 y2 y3 y4);have HHR:=Lib.hid (show hasR b (y1,y2,y3,y4)=(zee b.rates y1 y2 y3 y4).2∧rkR b (y1,y2,y3,y4)=(y1,y2,y3,y4,(zee b.rates y1 y2 y3 y4).1.1,(zee b.rates y1 y2 y3 y4).1.2)from⟨rfl,rfl⟩);generalize zee b.rates y1 y2 y3 y4=ro at *;obtain⟨⟨q1,q2⟩,hh⟩:=ro;simp only at HVR HHR;have hO1a:=tD.own hO1 (fun _ _=>id);have hO2a:=tD.own hO2 (fun _ _=>id);have hta:=ht.trans tD;have HBD:=Lib.hid (fun w' (t9:Tf _ w')=>bD.keep t9 id);have HZL:=Lib.hid ht.size;have HZN:=Lib.hid (show∀g,((Value.slice AX xs.length kX).ownBlock=some g∨(Value.slice AY ys.length kY).ownBlock=some g)→g≠wr.heap.size from fun g hg e=>by rcases hg with h9|h9;have:=(hO1.lt g h9).2;omega;have:=(hO2.lt g h9).2;omega);clear hl9 hxs hys hO1 hO2 ht tD bD;go_wp2_with fail;generalize wr.alloc (.cells #[.int .i64 y1,.int .i64 y2,.int .i64 y3,.int .i64 y4,.int .i64 0,.int .i64 0] 115)=wa at *;generalize wr.heap.size=za at *;refine HVR.out.mono ?_;rintro _ w8 ⟨rfl,t8⟩;have tQ:=tal w8 (.cells #[.int .i64 q1,.int .i64 q2] 44);have bQ:=Blk.new w8 44 #[.int .i64 q1,.int .i64 q2];have tq:=t8.trans tQ;have hO1b:=tq.own hO1a (fun _ _=>id);have hO2b:=tq.own hO2a (fun _ _=>id);have htb:=hta.trans tq;have bDb:=HBD.out _ tq;have hxl:=HXY.out.1;have hyl:=HXY.out.2;clear HVR HBD t8 tQ tq hO1a hO2a hta p0 p1 p2 p3 p4 p5 z0 z1 z2 z3 z4 z5
     cases hh
     ·obtain⟨z0,z1,z2,z3,z4,z5⟩:=bDb.f6;have tS:=tal (w8.alloc (.cells #[.int .i64 q1,.int .i64 q2] 44)) (.cells #[.int .i64 y1,.int .i64 y2,.int .i64 y3,.int .i64 y4,.int .i64 0,.int .i64 0] 115);have hO2c:=tS.own hO2b (fun _ _=>id);have hO1c:=tS.own hO1b (fun _ _=>id);have htc:=htb.trans tS;have HBE:=Lib.hid (fun m9=>(Blk.new2 w8 (.cells #[.int .i64 q1,.int .i64 q2] 44) 115 #[.int .i64 y1,.int .i64 y2,.int .i64 y3,.int .i64 y4,.int .i64 0,.int .i64 0]).cell m9);clear bDb tS hO1b hO2b htb bQ;go_wp2_with (at_builtin;refine Hid.out ?_);refine Lib.hid ?_;refine apd rowRt hO2c (Go.Gk.Src.one (news:=rk6 (y1,y2,y3,y4)) rfl (fun m9 u9 hu9=>by rw[HBE.out m9];simpa[rk6]using hu9)) (by simp[rk6,Value.oneCell']) ?_;intro v2 w9 ho2 hg2 hl2;have tg:Tch (fun k=>(Value.slice AY ys.length kY).ownBlock=some k) _ w9:=Tch.grown hg2 (fun k hk=>.inl hk);have hO1d:=tg.own hO1c (fun g hg hf=>hdj g hg hf)
      have hO2d:=zbk ho2 (fun g hg=>show w6.heap.size≤g by
       rcases hl2 g hg with h9|h9
       ·exact(hO2c.lt g h9).1
       ·have:=htc.size;omega)
      have hdd:∀k,(Value.slice AX xs.length kX).ownBlock=some k→v2.ownBlock=some k→False:=fun k h1 h2=>by
       rcases hl2 k h2 with h9|h9
       ·exact hdj k h1 h9
       ·have:=(hO1c.lt k h1).2;omega
      have htd:=htc.trans' tg (fun i hi=>.inr (hO2c.lt i hi).1);have HH:=Lib.hid (⟨hO1d,hO2d,hdd,htd⟩:_∧_∧_∧_);obtain⟨O2,co2,rfl,_,_⟩:=zac ho2;clear hO1c hO2c htc ho2 hg2 hl2 tg hO1d hO2d hdd htd hdj HBE z0 z1 z2 z3 z4 z5;go_wp2;go_roundw
      case rel=>
       refine⟨j+1,xs,ys++[(y1,y2,y3,y4)],by omega,by go_num,?_,?_,by omega,by simp;omega,HH.out.1,?_,?_,HH.out.2.2.2⟩
       ·rw[HNX.out.1,HHR.out.1];simp
       ·rw[HNX.out.2,HHR.out.1];simp
       ·simpa using HH.out.2.1
       ·simpa using HH.out.2.2.1
      case measure=>simp[intOf]<;>omega
     ·have HO1:=Lib.hid hO1b;have HO2:=Lib.hid hO2b;have HTB:=Lib.hid htb;have HBD:=Lib.hid bDb;have HZA:=Lib.hid HZL.out;have HZO:=Lib.hid (fun(g:Nat) (hg:(Value.slice AX xs.length kX).ownBlock=some g∨(Value.slice AY ys.length kY).ownBlock=some g) (e:g=za)=>HZN.out g hg e);obtain⟨x0,x1⟩:=bQ.f2;obtain⟨z0,z1,z2,z3,z4,z5⟩:=bDb.f6;clear hO1b hO2b htb bDb bQ;go_wp2_with (refine stP za 4 (.int .i64 q1) (.int .i64 q2) HBD.out ?_);refine Lib.hid ?_;intro w9 hF tF;have bF:Blk w9 za 115 #[.int .i64 y1,.int .i64 y2,.int .i64 y3,.int .i64 y4,.int .i64 q1,.int .i64 q2]:=hF;have hlo:w6.heap.size≤za:=HZA.out;have hO1c:=tF.own HO1.out (fun g hg e=>HZO.out g (.inl hg) e);have hO2c:=tF.own HO2.out (fun g hg e=>HZO.out g (.inr hg) e);have htc:=HTB.out.trans' tF (fun i hi=>.inr (by have hi:i=za:=hi;omega));have tS:=tal w9 (.cells #[.int .i64 y1,.int .i64 y2,.int .i64 y3,.int .i64 y4,.int .i64 q1,.int .i64 q2] 115);obtain⟨z0,z1,z2,z3,z4,z5⟩:=bF.f6;have hO1d:=tS.own hO1c (fun _ _=>id);have hO2d:=tS.own hO2c (fun _ _=>id);have htd:=htc.trans tS;have HBE:=Lib.hid (fun m9=>(Blk.new w9 115 #[.int .i64 y1,.int .i64 y2,.int .i64 y3,.int .i64 y4,.int .i64 q1,.int .i64 q2]).cell m9);clear hF tF bF hO1c hO2c htc tS x0 x1;go_wp2_with (at_builtin;refine Hid.out ?_);refine Lib.hid ?_;refine apd rowRt hO1d (Go.Gk.Src.one (news:=za2 (y1,y2,y3,y4,q1,q2)) rfl (fun m9 u9 hu9=>by rw[HBE.out m9];simpa[za2]using hu9)) (by simp[za2,Value.oneCell']) ?_;intro v2 w10 ho2 hg2 hl2;have tg:Tch (fun k=>(Value.slice AX xs.length kX).ownBlock=some k) _ w10:=Tch.grown hg2 (fun k hk=>.inl hk);have hO2e:=tg.own hO2d (fun g hg hf=>hdj g hf hg)
      have hO1e:=zbk ho2 (fun g hg=>show w6.heap.size≤g by
       rcases hl2 g hg with h9|h9
       ·exact(hO1d.lt g h9).1
       ·have:=htd.size;omega)
      have hdd:∀k,v2.ownBlock=some k→(Value.slice AY ys.length kY).ownBlock=some k→False:=fun k h1 h2=>by
       rcases hl2 k h1 with h9|h9
       ·exact hdj k h9 h2
       ·have:=(hO2d.lt k h2).2;omega
      have hte:=htd.trans' tg (fun i hi=>.inr (hO1d.lt i hi).1);have HH:=Lib.hid (⟨hO1e,hO2e,hdd,hte⟩:_∧_∧_∧_);obtain⟨O2,co2,rfl,_,_⟩:=zac ho2;clear hO1d hO2d htd ho2 hg2 hl2 tg hO1e hO2e hdd hte hdj HBE z0 z1 z2 z3 z4 z5;go_wp2;go_roundw
      case rel=>
       refine⟨j+1,xs++[(y1,y2,y3,y4,q1,q2)],ys,by omega,by go_num,?_,?_,by simp;omega,by omega,?_,HH.out.2.1,?_,HH.out.2.2.2⟩
       ·rw[HNX.out.1,HHR.out.1,HHR.out.2];simp
       ·rw[HNX.out.2,HHR.out.1];simp
       ·simpa using HH.out.1
       ·simpa using HH.out.2.2.1
      case measure=>simp[intOf]<;>omega
    ·obtain rfl:j=K.length:=by omega
     have hlt':¬(K.length:Int)<(K.length:Int):=by omega
     rw[List.take_length]at hxs hys;have HX:=Lib.hid (show zae za2 6 (fun _=>True) wr (.slice AX xs.length kX) (knownOf b K) by rw[hxs];exact Row.own hO1 (fun _ _=>trivial));have HY:=Lib.hid (show zae rk6 6 (fun _=>True) wr (.slice AY ys.length kY) (missOf b K) by rw[hys];exact Row.own hO2 (fun _ _=>trivial));have HT9:=Lib.hid (HT6.out.trans ht);clear hxs hys hO1 hO2 ht hdj;go_wp2;refine bodyPost_ret (results_tmp3 rfl _ _ _) rfl ?_;exact⟨K,_,_,_,rfl,HX.out,HY.out,HT9.out,HRA.out⟩
end
end Go.Proofs.YtoegobjnjljegaaGreatDoor
namespace Go.Gk.V39
open Go.RowKit Go.Gk Go.Gk.V33 Go.Gk.V37 Go.Gk.V38
theorem need_is {b:Bks} {c:Rt6} {N:List Rt6} (h:NeedSet b c N) (C:List Rt6) (hs:C.Pairwise fun x y=>Go.Proofs.ltOf z21 x y=true) (h0:c∈C) (hcl:∀d∈C,∀k∈zyk (zfg b d).1,k∈C) (hn:∀d∈C,Need b [c] d):N=C:=
 ltC_same h.lt hs fun x=>(h.mem x).trans ⟨fun hx=>by
  induction hx with
  |base h9=>exact List.mem_singleton.1 h9▸h0
  |step _ h9 ih=>exact hcl _ ih _ h9,hn x⟩
theorem some_less:(zay someBks.entries).length≤3000:=by decide
theorem r1:zyk (zfg someBks (2,1,4,1,0,0)).1=[(2,1,4,0,0,0),(1,1,4,1,0,0)]:=by decide+kernel
theorem r2:zyk (zfg someBks (2,1,4,0,0,0)).1=[(1,1,4,0,0,0)]:=by decide+kernel
theorem r3:zyk (zfg someBks (3,1,4,1,2,0)).1=[(2,1,4,1,0,0)]:=by decide+kernel
theorem n_bal {N:List Rt6} (h:NeedSet someBks (2,1,4,1,0,0) N):N=[(1,1,4,0,0,0),(1,1,4,1,0,0),(2,1,4,0,0,0),(2,1,4,1,0,0)]:=by
 refine need_is h _ (by decide+kernel) (by decide) (by decide+kernel) fun d hd=>?_
 have h0:Need someBks [(2,1,4,1,0,0)] (2,1,4,1,0,0):=.base (by simp);have h1:Need someBks [(2,1,4,1,0,0)] (2,1,4,0,0,0):=h0.step (by rw[r1];simp);simp only[List.mem_cons,List.not_mem_nil,or_false]at hd;rcases hd with rfl|rfl|rfl|rfl
 ·exact h1.step (by rw[r2];simp)
 ·exact h0.step (by rw[r1];simp)
 ·exact h1
 ·exact h0
theorem n_was {N:List Rt6} (h:NeedSet someBks (2,1,4,0,0,0) N):N=[(1,1,4,0,0,0),(2,1,4,0,0,0)]:=by
 refine need_is h _ (by decide+kernel) (by decide) (by decide+kernel) fun d hd=>?_
 have h0:Need someBks [(2,1,4,0,0,0)] (2,1,4,0,0,0):=.base (by simp);simp only[List.mem_cons,List.not_mem_nil,or_false]at hd;rcases hd with rfl|rfl
 ·exact h0.step (by rw[r2];simp)
 ·exact h0
theorem cl_tr:∀k,Need someBks [(3,1,4,1,2,0)] k→k∈[((1,1,4,0,0,0):Rt6),(1,1,4,1,0,0),(2,1,4,0,0,0),(2,1,4,1,0,0),(3,1,4,1,2,0)]:=fun k h=>by
 have hcl:∀d∈[((1,1,4,0,0,0):Rt6),(1,1,4,1,0,0),(2,1,4,0,0,0),(2,1,4,1,0,0),(3,1,4,1,2,0)],∀k∈zyk (zfg someBks d).1,k∈[((1,1,4,0,0,0):Rt6),(1,1,4,1,0,0),(2,1,4,0,0,0),(2,1,4,1,0,0),(3,1,4,1,2,0)]:=by decide+kernel
 induction h with
 |base h9=>rw[List.mem_singleton]at h9;subst h9;simp
 |step _ h9 ih=>exact hcl _ ih _ h9
theorem a_mov {L:List Rt6} {er:Int} (h:MovesAns someBks (2,1,4,1,0,0) L er):er=0∧L=[(1,1,4,0,0,0),(1,1,4,1,0,0)]:=by
 have h0:er=0:=h.1.trans (by decide+kernel);obtain⟨N,hN,rfl⟩:=h.2.2 h0;rw[n_bal hN];exact⟨h0,by decide+kernel⟩
theorem a_was {L:List Rt6} {er:Int} (h:MovesAns someBks (2,1,4,0,0,0) L er):L=[(1,1,4,0,0,0)]:=by
 obtain⟨N,hN,rfl⟩:=h.2.2 (h.1.trans (by decide+kernel));rw[n_was hN];decide+kernel
theorem a_bad:za3 (2,2,4,0,0,0) someBks.ents.length someBks.accs.length=20:=by decide+kernel
theorem a_lin {l:List Int} {er:Int} (h:LinesAns someBks (2,1,4,1,0,0) l er):er=0∧l=[1,3]:=by
 have h0:er=0:=h.1.trans (by decide+kernel);obtain⟨h1,h2⟩:=h.2.2 h0;refine⟨h0,zp1 h1 (by decide) fun q=>(h2 q).trans ?_⟩;have hid:∀d∈[((1,1,4,0,0,0):Rt6),(1,1,4,1,0,0),(2,1,4,0,0,0),(2,1,4,1,0,0)],zoh someBks d=if d=(1,1,4,0,0,0)then[1]else if d=(1,1,4,1,0,0)then[3]else[]:=by decide+kernel
 have hcl:∀d∈[((1,1,4,0,0,0):Rt6),(1,1,4,1,0,0),(2,1,4,0,0,0),(2,1,4,1,0,0)],∀k∈zyk (zfg someBks d).1,k∈[((1,1,4,0,0,0):Rt6),(1,1,4,1,0,0),(2,1,4,0,0,0),(2,1,4,1,0,0)]:=by decide+kernel
 constructor
 ·rintro⟨d,hd,hx⟩
  have hm:d∈[((1,1,4,0,0,0):Rt6),(1,1,4,1,0,0),(2,1,4,0,0,0),(2,1,4,1,0,0)]:=by
   clear hx;induction hd with
   |base h9=>rw[List.mem_singleton]at h9;subst h9;simp
   |step _ h9 ih=>exact hcl _ ih _ h9
  rw[hid d hm]at hx;split at hx
  ·simp at hx;simp[hx]
  ·split at hx
   ·simp at hx;simp[hx]
   ·cases hx
 ·intro hq;have g0:Need someBks [(2,1,4,1,0,0)] (2,1,4,1,0,0):=.base (by simp);have g1:Need someBks [(2,1,4,1,0,0)] (2,1,4,0,0,0):=g0.step (by rw[r1];simp);simp only[List.mem_cons,List.not_mem_nil,or_false]at hq;rcases hq with rfl|rfl
  ·exact⟨(1,1,4,0,0,0),g1.step (by rw[r2];simp),by decide+kernel⟩
  ·exact⟨(1,1,4,1,0,0),g0.step (by rw[r1];simp),by decide+kernel⟩
theorem a_rat {K:List Rk4} {er:Int} (h:RatesAns someBks (3,1,4,1,2,0) K er):er=0∧knownOf someBks K=[]∧missOf someBks K=[(1,2,1,1)]:=by
 have h0:er=0:=h.1.trans (by decide+kernel);obtain⟨h1,h2⟩:=h.2.2 h0
 have hrk:∀d∈[((1,1,4,0,0,0):Rt6),(1,1,4,1,0,0),(2,1,4,0,0,0),(2,1,4,1,0,0),(3,1,4,1,2,0)],∀k,rkOf someBks d=some k→k=(1,2,1,1):=by
  intro d hd k hk;have h9:∀d∈[((1,1,4,0,0,0):Rt6),(1,1,4,1,0,0),(2,1,4,0,0,0),(2,1,4,1,0,0),(3,1,4,1,2,0)],rkOf someBks d=none∨rkOf someBks d=some (1,2,1,1):=by decide+kernel
  rcases h9 d hd with e|e<;>rw[e]at hk
  ·cases hk
  ·exact(Option.some.inj hk).symm
 have hm:∀k,k∈K↔k=(1,2,1,1):=fun k=>(h2 k).trans ⟨fun⟨d,hd,hk⟩=>hrk d (cl_tr d hd) k hk,fun e=>⟨(3,1,4,1,2,0),.base (by simp),by rw[e];decide+kernel⟩⟩
 have hK:K=[(1,2,1,1)]:=by
  cases K with
  |nil=>exact absurd ((hm _).2 rfl) List.not_mem_nil
  |cons x r=>
   have hx:=(hm x).1 (List.mem_cons_self ..);subst hx
   cases r with
   |nil=>rfl
   |cons y s=>
    have hy:=(hm y).1 (by simp);subst hy;have h9:=(List.pairwise_cons.1 h1).1 _ (List.mem_cons_self ..);rw[swoR.irrefl]at h9
    cases h9
 rw[hK];exact⟨h0,by decide+kernel,by decide+kernel⟩
theorem a_fed {rs:List Bool} (h:FedAns someBks [(2,1,4,1,0,0),(2,1,4,0,0,0),(2,2,4,0,0,0)] 3 rs) (hb:∃L er,MovesAns someBks (2,1,4,1,0,0) L er):rs=[true,false,false]:=by
 obtain⟨hl,h1⟩:=h;match rs,hl with
 |[x,y,z],_=>
  have hx:x=true:=by
   obtain⟨L,er,hL⟩:=hb;have:=(h1 0 (by simp)).2 ⟨L,er,hL,by rw[(a_mov hL).2];exact⟨(1,1,4,1,0,0),by simp,by decide+kernel⟩⟩;simpa using this
  have hy:y=false:=by
   cases y with
   |false=>rfl
   |true=>
    obtain⟨L,er,hL,m,hm,hi⟩:=(h1 1 (by simp)).1 rfl;rw[a_was (show MovesAns someBks (2,1,4,0,0,0) L er from hL)]at hm;rw[List.mem_singleton]at hm;subst hm;exact absurd hi (by decide+kernel)
  have hz:z=false:=by
   cases z with
   |false=>rfl
   |true=>
    obtain⟨L,er,hL,m,hm,hi⟩:=(h1 2 (by simp)).1 rfl;have h9:er=20:=hL.1.trans a_bad;rw[hL.2.1 (by omega)]at hm
    cases hm
  rw[hx,hy,hz]
end Go.Gk.V39
namespace Go.Proofs.YtoegobjnjljegaaGreatDoor
open Go.RowKit Go.Gk Go.Gk.V33 Go.Gk.V37 Go.Gk.V38 Go.Gk.V39
theorem some_facts:RuleFacts someBks:=⟨zvc someBks_few,zxs someBks_few,ztj someBks_64,by decide,by decide,by decide,someBks_ok⟩
theorem same21_any {w:World} {u v:Value} {l:List Rk4} (hk:zae rk6 6 (fun _=>True) w u l) (hl:zae rk6 6 (fun _=>True) w v l):
 Calls Tryz.prog 54 #[u,v] w fun x w'=>x=.returned (.bool true)∧Tf w w':=by
 have hk0:=hk;have hl0:=hl;obtain⟨A,c,rfl,hc1,hc2⟩:=hk.form;obtain⟨A',c',rfl,hc1',hc2'⟩:=hl.form;clear hk hl;go_enter Tryz.func54,Tryz.ntmps54;go_wp2_with fail;go_loopw [5] (fun i wr=>∃j:Nat,j≤l.length∧i=.int .i64 j∧Tf w wr) (fun i _=>l.length-(intOf i).toNat)
 case atStart=>exact⟨0,Nat.zero_le _,rfl,Tch.refl _ _⟩
 case round=>
  obtain⟨j,hj,rfl,ht⟩:=hrel;by_cases hlt:j<l.length
  ·have hlt':(j:Int)<(l.length:Int):=by omega
   have hj0:=znn j;obtain⟨g,o,rfl⟩:=hk0.head (by omega);obtain⟨g',o',rfl⟩:=hl0.head (by omega);obtain⟨q0,q1,q2,q3,q4,q5⟩:=Row.six (hk0.keep ht) rk6_len hlt rfl;obtain⟨r0,r1,r2,r3,r4,r5⟩:=Row.six (hl0.keep ht) rk6_len hlt rfl;clear hk0 hl0;generalize l[j]=x at *;obtain⟨x1,x2,x3,x4⟩:=x;simp only at q0 q1 q2 q3 q4 q5 r0 r1 r2 r3 r4 r5
   have hcmp:∀w':World,(binOp .neq 115 (.agg #[.int .i64 x1,.int .i64 x2,.int .i64 x3,.int .i64 x4,.int .i64 0,.int .i64 0]) (.agg #[.int .i64 x1,.int .i64 x2,.int .i64 x3,.int .i64 x4,.int .i64 0,.int .i64 0])).run Tryz.prog w'=.ok (.bool false) w':=fun w'=>by
    rw[run_neq_struct,eqRate];simp
   go_wp2_with fail;go_quiet (fail)
   rename_i nq
   have t4:Tf wr (wr.drewN nq):=Tch.drewN _ _ _;have ht:=ht.trans t4;clear q0 q1 q2 q3 q4 q5 r0 r1 r2 r3 r4 r5;generalize wr.drewN nq=w4 at *;go_wp2;go_roundw
   case rel=>exact⟨j+1,by omega,by go_num,ht⟩
   case measure=>simp[intOf];omega
  ·obtain rfl:l.length=j:=by omega
   go_wp2;go_ret;exact⟨rfl,ht⟩
theorem awake39_any (w:World) (hT:Tab64 0 w):
 Calls Tryz.prog 12 #[] w fun x w'=>x=.returned (.bool true)∧Tf w w':=by
 have HTB:=Lib.hid (fun w' (t9:Tf w w')=>hT.keep t9);clear hT;go_enter Tryz.func12,Tryz.ntmps12;go_wp2_with fail;refine(some_any w).mono ?_;rintro _ w1 ⟨e,a,s,r,l,n,us,rfl,hB,t1⟩;go_wp2_with fail;refine(zwu hB someBks_few someBks_64).mono ?_;rintro _ w2 ⟨hsee,t2⟩;have tt:=t1.trans t2;clear hB t1 t2
 rcases hsee with⟨h,_⟩|⟨_,bv,bi,B,t,mr,mp,e,a,s,r,l,n,lv,fs,us,rfl,hV⟩
 ·rw[someBks_ok]at h;cases h
 have HTT:=Lib.hid (fun w' (t9:Tf w2 w')=>HTB.out w' (tt.trans t9));have HV:=Lib.hid (fun w' (t9:Tf w2 w')=>hV.keep t9);have T0:=Lib.hid tt;have ta:=tal w2 (.cells #[.int .i64 2,.int .i64 1,.int .i64 4,.int .i64 1,.int .i64 0,.int .i64 0] 31);have tb:=tal (w2.alloc (.cells #[.int .i64 2,.int .i64 1,.int .i64 4,.int .i64 1,.int .i64 0,.int .i64 0] 31)) (.cells #[.int .i64 2,.int .i64 1,.int .i64 4,.int .i64 0,.int .i64 0,.int .i64 0] 31);have tc:=tal ((w2.alloc (.cells #[.int .i64 2,.int .i64 1,.int .i64 4,.int .i64 1,.int .i64 0,.int .i64 0] 31)).alloc (.cells #[.int .i64 2,.int .i64 1,.int .i64 4,.int .i64 0,.int .i64 0,.int .i64 0] 31)) (.cells #[.int .i64 2,.int .i64 2,.int .i64 4,.int .i64 0,.int .i64 0,.int .i64 0] 31);have b1:=(Blk.new w2 31 #[.int .i64 2,.int .i64 1,.int .i64 4,.int .i64 1,.int .i64 0,.int .i64 0]).keep (tb.trans tc) id;have b2:=(Blk.new (w2.alloc (.cells #[.int .i64 2,.int .i64 1,.int .i64 4,.int .i64 1,.int .i64 0,.int .i64 0] 31)) 31 #[.int .i64 2,.int .i64 1,.int .i64 4,.int .i64 0,.int .i64 0,.int .i64 0]).keep tc id;have b3:=Blk.new ((w2.alloc (.cells #[.int .i64 2,.int .i64 1,.int .i64 4,.int .i64 1,.int .i64 0,.int .i64 0] 31)).alloc (.cells #[.int .i64 2,.int .i64 1,.int .i64 4,.int .i64 0,.int .i64 0,.int .i64 0] 31)) 31 #[.int .i64 2,.int .i64 2,.int .i64 4,.int .i64 0,.int .i64 0,.int .i64 0];have t3:=(ta.trans tb).trans tc;simp only[World.size_alloc]at b2 b3;clear hV tt HTB ta tb tc;have H1:=Lib.hid (fun w' t9=>moves_any (HV.out w' t9) some_facts some_less (by decide) (by decide) (HTT.out w' t9) 2 1 4 1 0 0 (by decide));have H2:=Lib.hid (fun w' t9=>lines39_any (HV.out w' t9) some_facts some_less (by decide) (by decide) (HTT.out w' t9) 2 1 4 1 0 0 (by decide));have H3:=Lib.hid (fun w' t9=>lines39_any (HV.out w' t9) some_facts some_less (by decide) (by decide) (HTT.out w' t9) 2 2 4 0 0 0 (by decide));have H4:=Lib.hid (fun w' t9 v hr=>fed39_any (v:=v) (cl:=[(2,1,4,1,0,0),(2,1,4,0,0,0),(2,2,4,0,0,0)]) (HV.out w' t9) some_facts some_less (by decide) (by decide) (HTT.out w' t9) 3 hr (by decide) (by decide));have H5:=Lib.hid (fun w' t9=>rates39_any (HV.out w' t9) some_facts some_less (by decide) (by decide) (HTT.out w' t9) 3 1 4 1 2 0 (by decide));clear HV HTT;obtain⟨g0,g1,g2,g3,g4,g5⟩:=b1.f6;go_wp2_with fail;generalize((w2.alloc _).alloc _).alloc _=W3 at *;generalize w2.heap.size=z at *;refine(H1.out W3 t3).mono ?_;rintro _ w3 ⟨L,u3,er,rfl,hr3,s3,hA3⟩;have HMV:=Lib.hid (show∃L er,MovesAns someBks (2,1,4,1,0,0) L er from⟨L,er,hA3⟩);obtain⟨rfl,rfl⟩:=a_mov hA3;obtain⟨A3,k3,rfl,_,_⟩:=hr3.form;have t4:=t3.trans s3;have c1:=b1.keep s3 id;have c2:=b2.keep s3 id;have c3:=b3.keep s3 id;have HR3:=Lib.hid (fun w' (t9:Tf w3 w')=>(hr3.weak (P':=fun _=>True) (fun _ _=>trivial)).keep t9);obtain⟨g0,g1,g2,g3,g4,g5⟩:=c1.f6;clear H1 hA3 hr3 s3 t3 b1 b2 b3;(try simp only[List.length_cons,List.length_nil,Nat.zero_add,Nat.reduceAdd]);go_wp2_with fail;refine(H2.out w3 t4).mono ?_;rintro _ w4 ⟨l4,u4,er4,rfl,hO4,hA4⟩;obtain⟨rfl,rfl⟩:=a_lin hA4;obtain⟨A4,k4,rfl,_,_⟩:=hO4.form;have t5:=t4.trans hO4.tch;have x3:=hO4.tch;have c1:=c1.keep hO4.tch id;have c2:=c2.keep hO4.tch id;have c3:=c3.keep hO4.tch id;have HR4:=Lib.hid (fun w' (t9:Tf w4 w')=>hO4.row.keep t9);obtain⟨g0,g1,g2,g3,g4,g5⟩:=c3.f6;clear H2 hA4 hO4 t4;(try simp only[List.length_cons,List.length_nil,Nat.zero_add,Nat.reduceAdd]);go_wp2_with fail;refine(H3.out w4 t5).mono ?_;rintro _ w5 ⟨l5,u5,er5,rfl,hO5,hA5⟩;obtain rfl:er5=20:=hA5.1.trans a_bad;obtain rfl:=hA5.2.1 (by decide);obtain⟨A5,k5,rfl,_,_⟩:=hO5.form;obtain⟨g0,g1,g2,g3,g4,g5⟩:=(c1.keep hO5.tch id).f6;obtain⟨h0,h1,h2,h3,h4,h5⟩:=(c2.keep hO5.tch id).f6;obtain⟨i0,i1,i2,i3,i4,i5⟩:=(c3.keep hO5.tch id).f6;have tS:=tal w5 (.cells #[.int .i64 2,.int .i64 1,.int .i64 4,.int .i64 1,.int .i64 0,.int .i64 0,.int .i64 2,.int .i64 1,.int .i64 4,.int .i64 0,.int .i64 0,.int .i64 0,.int .i64 2,.int .i64 2,.int .i64 4,.int .i64 0,.int .i64 0,.int .i64 0] 31);have bS:=Blk.new w5 31 #[.int .i64 2,.int .i64 1,.int .i64 4,.int .i64 1,.int .i64 0,.int .i64 0,.int .i64 2,.int .i64 1,.int .i64 4,.int .i64 0,.int .i64 0,.int .i64 0,.int .i64 2,.int .i64 2,.int .i64 4,.int .i64 0,.int .i64 0,.int .i64 0];have x4:=hO5.tch.trans tS;have t6:=t5.trans x4;have x3:=x3.trans x4;have hrS:zae za2 6 (fun _=>True) (w5.alloc (.cells #[.int .i64 2,.int .i64 1,.int .i64 4,.int .i64 1,.int .i64 0,.int .i64 0,.int .i64 2,.int .i64 1,.int .i64 4,.int .i64 0,.int .i64 0,.int .i64 0,.int .i64 2,.int .i64 2,.int .i64 4,.int .i64 0,.int .i64 0,.int .i64 0] 31)) (.slice (some ⟨w5.heap.size,0,none⟩) 3 3) [(2,1,4,1,0,0),(2,1,4,0,0,0),(2,2,4,0,0,0)]:=Row.own (z0z (base:=0) (size:=6) (n:=3) bS (Nat.zero_le _) rfl (by decide)) (fun _ _=>trivial);have H4:=Lib.hid (H4.out _ t6 _ hrS);clear H3 hA5 hO5 t5 c1 c2 c3 bS hrS tS;go_wp2_with fail;generalize w5.alloc _=W6 at *;generalize w5.heap.size=y5 at *;refine H4.out.mono ?_;rintro _ w7 ⟨u7,rs,rfl,hr7,s7,hF7⟩;obtain rfl:=a_fed hF7 HMV.out;obtain⟨A7,k7,rfl,_,_⟩:=hr7.form;have t7:=t6.trans s7;have x3:=x3.trans s7;have x4:=x4.trans s7;have HR7:=Lib.hid (fun w' (t9:Tf w7 w')=>hr7.keep t9);clear H4 hF7 hr7 s7 t6 HMV g0 g1 g2 g3 g4 g5 h0 h1 h2 h3 h4 h5 i0 i1 i2 i3 i4 i5;(try simp only[List.length_cons,List.length_nil,Nat.zero_add,Nat.reduceAdd]);go_wp2_with fail;refine(H5.out w7 t7).mono ?_;rintro _ w8 ⟨K,v1,v2,er8,rfl,hr8,hm8,s8,hA8⟩;obtain⟨rfl,hk8,hk9⟩:=a_rat hA8;rw[hk8]at hr8;rw[hk9]at hm8;obtain⟨A8,k8,rfl,_,_⟩:=hr8.form;obtain⟨A9,k9,rfl,_,_⟩:=hm8.form;have t8:=t7.trans s8;have x3:=x3.trans s8;have x4:=x4.trans s8;clear H5 hA8 hr8 hk8 hk9 t7;(try simp only[List.length_cons,List.length_nil,Nat.zero_add]);have tA:=tal w8 (.cells #[.int .i64 1,.int .i64 2,.int .i64 1,.int .i64 1,.int .i64 0,.int .i64 0] 115);have bA:=Blk.new w8 115 #[.int .i64 1,.int .i64 2,.int .i64 1,.int .i64 1,.int .i64 0,.int .i64 0];have hrA:zae rk6 6 (fun _=>True) (w8.alloc (.cells #[.int .i64 1,.int .i64 2,.int .i64 1,.int .i64 1,.int .i64 0,.int .i64 0] 115)) (.slice (some ⟨w8.heap.size,0,none⟩) 1 1) [(1,2,1,1)]:=Row.own (z0z (base:=0) (size:=6) (n:=1) bA (Nat.zero_le _) rfl (by decide)) (fun _ _=>trivial);have H6:=Lib.hid (same21_any (hm8.keep tA) hrA);have s9:=s8.trans tA;have t9:=t8.trans tA;have x3:=x3.trans tA;have x4:=x4.trans tA;clear hm8 hrA bA tA s8 t8;go_wp2_with fail;generalize w8.alloc _=W9 at *;refine H6.out.mono ?_;rintro _ w10 ⟨rfl,s10⟩;have tB:=tal w10 (.cells #[.int .i64 1,.int .i64 1,.int .i64 4,.int .i64 0,.int .i64 0,.int .i64 0,.int .i64 1,.int .i64 1,.int .i64 4,.int .i64 1,.int .i64 0,.int .i64 0] 31);have bB:=Blk.new w10 31 #[.int .i64 1,.int .i64 1,.int .i64 4,.int .i64 0,.int .i64 0,.int .i64 0,.int .i64 1,.int .i64 1,.int .i64 4,.int .i64 1,.int .i64 0,.int .i64 0];have hrB:zae za2 6 (fun _=>True) (w10.alloc (.cells #[.int .i64 1,.int .i64 1,.int .i64 4,.int .i64 0,.int .i64 0,.int .i64 0,.int .i64 1,.int .i64 1,.int .i64 4,.int .i64 1,.int .i64 0,.int .i64 0] 31)) (.slice (some ⟨w10.heap.size,0,none⟩) 2 2) [(1,1,4,0,0,0),(1,1,4,1,0,0)]:=Row.own (z0z (base:=0) (size:=6) (n:=2) bB (Nat.zero_le _) rfl (by decide)) (fun _ _=>trivial);have s11:=s10.trans tB;have H7:=Lib.hid (zf9 (HR3.out _ (x3.trans s11)) hrB);have s9:=s9.trans s11;have t10:=t9.trans s11;have x4:=x4.trans s11;clear H6 s10 tB bB hrB s11 x3 HR3 t9;go_wp2_with fail;generalize w10.alloc _=W11 at *;refine H7.out.mono ?_;rintro _ w12 ⟨rfl,s12⟩;have tC:=tal w12 (.cells #[.int .i64 1,.int .i64 3] 3);have bC:=Blk.new w12 3 #[.int .i64 1,.int .i64 3];have hrC:zae zby 1 (fun _=>True) (w12.alloc (.cells #[.int .i64 1,.int .i64 3] 3)) (.slice (some ⟨w12.heap.size,0,none⟩) 2 2) [1,3]:=Row.own (z0z (base:=0) (size:=1) (n:=2) bC (Nat.zero_le _) rfl (by decide)) (fun _ _=>trivial);have s13:=s12.trans tC;have H8:=Lib.hid (zkn (HR4.out _ (x4.trans s13)) hrC);have s9:=s9.trans s13;have t11:=t10.trans s13;clear H7 s12 tC bC hrC s13 x4 HR4 t10;go_wp2_with fail;generalize w12.alloc _=W13 at *;refine H8.out.mono ?_;rintro _ w14 ⟨rfl,s14⟩;have hr7:=HR7.out _ (s9.trans s14);obtain⟨g7,o7,rfl⟩:=hr7.head (by simp);have k0:=Row.elem (f:=fun(x:Bool)=>[Value.bool x]) (fun _=>rfl) hr7 (i:=0) (show 0<[true,false,false].length by decide) (j:=0) (by decide) rfl;have k1:=Row.elem (f:=fun(x:Bool)=>[Value.bool x]) (fun _=>rfl) hr7 (i:=1) (show 1<[true,false,false].length by decide) (j:=0) (by decide) rfl;have k2:=Row.elem (f:=fun(x:Bool)=>[Value.bool x]) (fun _=>rfl) hr7 (i:=2) (show 2<[true,false,false].length by decide) (j:=0) (by decide) rfl;simp only[Nat.add_zero,Nat.mul_one]at k0 k1 k2;have TT:=Lib.hid (T0.out.trans (t11.trans s14));clear H8 hr7 HR7 s9 s14 t11;go_wp2;go_ret;exact⟨rfl,TT.out⟩
open Go.RowKit Go.Gk
def FewRet (b:Bks) (p:Int) (w:World) (x:Ending) (w':World):Prop:=∃m:Bool,x=.returned (.bool m)∧(m=true→zuj b=true∧b.ents.length≤6∧b.accs.length≤9∧p≤3)∧Tf w w'
theorem z2e {w:World} {e a s r l n:Value} {b:Bks} {us:List (Ent×Value)} (h:BksAt w e a s r l n b us) (c1 c2 c3 c4 c5 c6:Int):
 Calls Tryz.prog 11 #[.agg #[e,a,s,r,l,n],.agg #[.int .i64 c1,.int .i64 c2,.int .i64 c3,.int .i64 c4,.int .i64 c5,.int .i64 c6]] w (FewRet b c4 w):=by
 obtain⟨W,hW,tw,bB,bC⟩:=al2 w #[e,a,s,r,l,n] #[.int .i64 c1,.int .i64 c2,.int .i64 c3,.int .i64 c4,.int .i64 c5,.int .i64 c6] 29 31;have HF:=Lib.hid (zwy (h.keep tw));obtain⟨Ae,ce,rfl,_,_⟩:=h.ents.form;obtain⟨Aa,ca,rfl,_,_⟩:=h.accs.form;obtain⟨As,cs,rfl,_,_⟩:=h.stakes.form;obtain⟨Ar,cr,rfl,_,_⟩:=h.rates.form;obtain⟨Al,cl,rfl,_,_⟩:=h.locks.form;obtain⟨An,cn,rfl,_,_⟩:=h.ent.row.form;obtain⟨g0,g1,g2,g3,g4,g5⟩:=bB.f6;clear h
 obtain⟨m,hm⟩:∃m,zuj b=m:=⟨_,rfl⟩
 rw[hm]at HF;have HM:=Lib.hid hm;clear hm;generalize hn0:b.ents.length=n0 at *;generalize hn1:b.accs.length=n1 at *;have HN0:=Lib.hid hn0;have HN1:=Lib.hid hn1;clear hn0 hn1;generalize us.length=n2 at *;generalize b.stakes.length=n3 at *;generalize b.rates.length=n4 at *;generalize b.locks.length=n5 at *;go_enter Tryz.func11,Tryz.ntmps11;go_wp2_with fail;refine HF.out.mono ?_;rintro _ w1 ⟨rfl,t1⟩;have bB1:=bB.keep t1 id;have bC1:=bC.keep t1 id;have tt:=tw.trans t1;clear HF g0 g1 g2 g3 g4 g5 hW tw t1 bB bC;obtain⟨g0,g1,g2,g3,g4,g5⟩:=bB1.f6;have k3:=bC1.at3;clear bB1 bC1
 cases m
 ·go_wp2;go_ret;exact⟨false,rfl,(fun h=>by cases h),tt⟩
 by_cases h0:(n0:Int)≤6
 rotate_left
 ·go_wp2;go_ret;exact⟨false,rfl,(fun h=>by cases h),tt⟩
 by_cases h1:(n1:Int)≤9
 rotate_left
 ·go_wp2;go_ret;exact⟨false,rfl,(fun h=>by cases h),tt⟩
 by_cases h2:(n2:Int)≤12
 rotate_left
 ·go_wp2;go_ret;exact⟨false,rfl,(fun h=>by cases h),tt⟩
 go_wp2;go_ret;exact⟨_,rfl,fun h9=>⟨HM.out,by rw[HN0.out];omega,by rw[HN1.out];omega,of_decide_eq_true h9⟩,tt⟩
