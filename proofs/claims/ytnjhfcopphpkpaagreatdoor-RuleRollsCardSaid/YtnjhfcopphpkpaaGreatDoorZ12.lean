/-
  Entries that may be.
-/
import Derived.Test.YtnjhfcopphpkpaaGreatDoorZ11
import Derived.Lib.SliceRun
set_option maxRecDepth 100000
set_option maxHeartbeats 3200000
namespace Go.Gk
end Go.Gk
namespace Go.Proofs.YtnjhfcopphpkpaaGreatDoor
open Go.RowKit Go.Gk
theorem ruleB_any (x:Ln4) (ne na:Int) {w:World} {be ba:Nat} (hbe:Blk w be 3 #[.int .i64 ne]) (hba:Blk w ba 3 #[.int .i64 na]) (k:Nat) (hk:k<4) (g:Nat) (lb:Array Value) (hg:(ruleRow be ba)[k*2]?=some (.func (.func g) #[] lb)):
 Calls Tryz.prog g (#[.agg #[.int .i64 x.1,.int .i64 x.2.1,.int .i64 x.2.2.1,.int .i64 x.2.2.2]]++lb) w (RetB (lineBrk x ne na k) w):=by
 obtain⟨a,b,p,m⟩:=x;rcases(by omega:k=0∨k=1∨k=2∨k=3)with rfl|rfl|rfl|rfl<;>(simp[ruleRow]at hg;obtain⟨rfl,rfl⟩:=hg)
 ·exact rule1_any a b p m ne (hbe.cell 0)
 ·exact rule2_any a b p m na (hba.cell 0)
 ·exact rule3_any a b p m ne (hbe.cell 0)
 ·exact rule4_any a b p m w
theorem ruleRow_at (be ba k:Nat) (hk:k<4):∃(g:Nat) (lb:Array Value) (n:Int),(ruleRow be ba)[k*2]?=some (.func (.func g) #[] lb)∧(ruleRow be ba)[k*2+1]?=some (.int .i64 n)∧(n==0)=false∧∀args w,(callFunc g args).run Tryz.prog w=.ok (.enter g args) w:=by
 rcases(by omega:k=0∨k=1∨k=2∨k=3)with rfl|rfl|rfl|rfl
 ·exact⟨_,_,_,rfl,rfl,rfl,enters_of Tryz.func266 (by kernel_rfl) rfl⟩
 ·exact⟨_,_,_,rfl,rfl,rfl,enters_of Tryz.func267 (by kernel_rfl) rfl⟩
 ·exact⟨_,_,_,rfl,rfl,rfl,enters_of Tryz.func268 (by kernel_rfl) rfl⟩
 ·exact⟨_,_,_,rfl,rfl,rfl,enters_of Tryz.func269 (by kernel_rfl) rfl⟩
theorem entcheck9_any (p r ne na:Int) {w:World} {v:Value} {l:List Ln4} (hl:RowsOf int4 4 (fun _=>True) w v l) (h64:∀x∈l,I64 x.2.2.2) (hn:l.length≤1000):
 Calls Tryz.prog 162 #[.agg #[.int .i64 p,.int .i64 r,v],.int .i64 ne,.int .i64 na] w (RetAt (entryOK ⟨p,r,l⟩ ne na) w):=by
 obtain⟨ok,hok⟩:∃ok,entryOK ⟨p,r,l⟩ ne na=ok:=⟨_,rfl⟩
 rw[hok];unfold entryOK at hok;simp only at hok;have HOK:=Lib.hid hok;clear hok;obtain⟨A,c,rfl,hc1,hc2⟩:=hl.form;have hb:=Blk.new w 146 #[.int .i64 p,.int .i64 r,.slice A l.length c];have tw:=tal w (.cells #[.int .i64 p,.int .i64 r,.slice A l.length c] 146);have hl1:=hl.keep tw;by_cases h1:0≤p
 rotate_left
 ·obtain rfl:ok=false:=by rw[←HOK.out];simp[h1]
  clear HOK;go_enter Tryz.func162,Tryz.ntmps162;go_wp2;go_ret2
  exact RetAt.no rfl tw
 by_cases h2:p<24
 rotate_left
 ·obtain rfl:ok=false:=by rw[←HOK.out];simp[h2]
  clear HOK;go_enter Tryz.func162,Tryz.ntmps162;go_wp2;go_ret2
  exact RetAt.no rfl tw
 by_cases h3:2≤l.length
 rotate_left
 ·obtain rfl:ok=false:=by rw[←HOK.out];simp[h3]
  have h3':(l.length:Int)<2:=by omega
  clear HOK;go_enter Tryz.func162,Tryz.ntmps162;go_wp2;go_ret2
  exact RetAt.no rfl tw
 by_cases h4:l.length≤50
 rotate_left
 ·obtain rfl:ok=false:=by rw[←HOK.out];simp[h4]
  have h3':(2:Int)≤(l.length:Int):=by omega
  have h4':50<(l.length:Int):=by omega
  clear HOK;go_enter Tryz.func162,Tryz.ntmps162;go_wp2;go_ret2
  exact RetAt.no rfl tw
 have h3':(2:Int)≤(l.length:Int):=by omega
 have h4':(l.length:Int)≤50:=by omega
 have HOK:=Lib.hid (show((l.all fun x=>lineOK x ne na)&&l.all fun x=>lineSum l x.1==0)=ok by rw[←HOK.out];simp[h1,h2,h3,h4]);go_enter Tryz.func162,Tryz.ntmps162;go_wp2_with fail;generalize w.alloc (.cells #[.int .i64 p,.int .i64 r,.slice A l.length c] 146)=W at *;generalize w.heap.size=z at *;refine(rules_any ne na W).mono ?_;rintro _ w1 ⟨be,ba,br,rfl,hbe,hba,hbr,t1⟩;have tw1:=tw.trans t1;have hl2:=hl1.keep t1;have hb1:=hb.keep t1 id;obtain⟨f0,f1,f2⟩:=hb1.f3;go_wp2_with fail;clear f0 f1 f2;go_loopw [43] (fun i wr=>∃j:Nat,j≤l.length∧i=.int .i64 j∧(l.take j).all (fun x=>lineOK x ne na)=true∧Tf w1 wr) (fun i _=>l.length-(intOf i).toNat)
 case atStart=>exact⟨0,by omega,rfl,rfl,Tch.refl _ _⟩
 case round=>
  obtain⟨j,hj,rfl,hall,ht⟩:=hrel;have HA:=Lib.hid hall;clear hall;by_cases hlt:j<l.length
  ·have hlt':(j:Int)<(l.length:Int):=by omega
   have hj0:=znn j;obtain⟨g,o,rfl⟩:=hl.head (by omega);obtain⟨q0,q1,q2,q3⟩:=Row.four (hl2.keep ht) int4_len hlt rfl;have HS:=Lib.hid (all_take_succ (p:=fun x=>lineOK x ne na) hlt);have HN:=Lib.hid (fun h=>all_no (p:=fun x=>lineOK x ne na) hlt h);generalize l[j]=s at *;obtain⟨x,b,d,m⟩:=s;simp only at q0 q1 q2 q3;have hbs:=Blk.new wr 150 #[.int .i64 x,.int .i64 b,.int .i64 d,.int .i64 m];have t2:=ht.trans (tal wr (.cells #[.int .i64 x,.int .i64 b,.int .i64 d,.int .i64 m] 150));go_wp2_with fail;generalize wr.alloc (.cells #[.int .i64 x,.int .i64 b,.int .i64 d,.int .i64 m] 150)=W2 at *;generalize wr.heap.size=N at *;go_loopw [50] (fun i wr=>∃k:Nat,k≤4∧i=.int .i64 k∧(∀q,q<k→lineBrk (x,b,d,m) ne na q=false)∧Tf W2 wr) (fun i _=>4-(intOf i).toNat)
   case atStart=>exact⟨0,by omega,rfl,(fun q hq=>by omega),Tch.refl _ _⟩
   case round=>
    obtain⟨k,hk,rfl,hbrk,hs⟩:=hrel;have HB:=Lib.hid hbrk;clear hbrk;have ts:=t2.trans hs;by_cases hk4:k<4
    ·have hk4':(k:Int)<4:=by omega
     have hk0:=znn k;obtain⟨gf,lb,n,e1,e2,hn0,eg⟩:=ruleRow_at be ba k hk4;have hbr2:=hbr.keep ts id;have d0:=hbr2.cell (k*2);have d1:=hbr2.cell (k*2+1);rw[e1]at d0;rw[e2]at d1;have HR:=Lib.hid (fun w' (t:Tf wr w')=>ruleB_any (x,b,d,m) ne na (hbe.keep (ts.trans t) id) (hba.keep (ts.trans t) id) k hk4 gf lb e1);clear e1 e2;have tq:=tal wr (.cells #[.func (.func gf) #[] lb,.int .i64 n] 299);obtain⟨g0,g1,g2,g3⟩:=(hbs.keep (hs.trans tq) id).f4;have hbq:=Blk.new wr 299 #[.func (.func gf) #[] lb,.int .i64 n];have hst:∀(a:Addr) (m:Mode) (w':World),(store a (.func (.func gf) #[] lb) m).run Tryz.prog w'=stored Tryz.prog w' a (.func (.func gf) #[] lb) m:=fun a m w'=>run_store Tryz.prog w' a _ m rfl
     go_wp2_with fail;clear hst;have hq1:=hbq.at1;have tsq:=ts.trans tq;clear hbq d0 d1 g0 g1 g2 g3;generalize wr.alloc (.cells #[.func (.func gf) #[] lb,.int .i64 n] 299)=W3 at *;generalize wr.heap.size=N3 at *;refine(HR.out W3 tq).mono ?_;rintro _ w4 ⟨rfl,t4⟩;clear HR;have hq4:=t4.cell_some hq1 id
     cases hbk:lineBrk (x,b,d,m) ne na k
     ·have HB2:=Lib.hid (show∀q,q<k+1→lineBrk (x,b,d,m) ne na q=false from fun q hq=>by
       rcases Nat.lt_succ_iff_lt_or_eq.1 hq with h|h
       ·exact HB.out q h
       ·subst h;exact hbk)
      clear hbk;go_wp2;go_roundw
      case rel=>exact⟨k+1,by omega,by go_num,HB2.out,hs.trans (tq.trans t4)⟩
      case measure=>simp[intOf];omega
     ·have hlo:lineOK (x,b,d,m) ne na=false:=by
       rw[lineOK_eq];exact range_all_no (p:=fun k=>!lineBrk (x,b,d,m) ne na k) hk4 (by simp[hbk])
      obtain rfl:ok=false:=by rw[←HOK.out,HN.out hlo];rfl
      clear hbk;go_wp2_with fail;have hq5:=within_cell (F:=fun _=>False) hq4 id;refine wp_touch (fun _=>False) [] 4 [] [] ?_ ?_
      ·exact trivial
      intro bef _;iterate 4 (refine t_dq ?_;(try simp only[putS]))
      refine t_nil ?_;intro w5 hr hp1 hap;have t5:=(tw1.trans (tsq.trans t4)).trans ((Tch.drew _ w4).trans hr);clear hap hp1 hr hq5 hq4 hq1;go_wp2;go_ret2
      exact RetAt.no hn0 t5
    ·obtain rfl:k=4:=by omega
     have hlo:lineOK (x,b,d,m) ne na=true:=by
      rw[lineOK_eq,List.all_eq_true];intro q hq;rw[HB.out q (List.mem_range.1 hq)];rfl
     have HS:=Lib.hid (show(l.take (j+1)).all (fun x=>lineOK x ne na)=true by rw[HS.out,HA.out,hlo];rfl);go_wp2;go_roundw
     case rel=>exact⟨j+1,by omega,by go_num,HS.out,ts⟩
     case measure=>simp[intOf];omega
  ·obtain rfl:l.length=j:=by omega
   rw[List.take_length]at HA;rw[HA.out,Bool.true_and]at HOK;have tq:=tw1.trans ht;obtain⟨f0,f1,f2⟩:=(hb1.keep ht id).f3;have HE:=Lib.hid (entities_any p r (hl2.keep ht) (by omega));go_wp2_with fail;refine HE.out.mono ?_;rintro _ w2 ⟨u,zs,rfl,hu,hmem,hzl,t2⟩;obtain⟨U,cu,rfl,hu1,hu2⟩:=hu.form;have HM:=Lib.hid hmem;clear HE f0 f1 f2 hmem;have t12:=ht.trans t2;go_wp2_with fail;go_loopw [66] (fun i wr=>∃q:Nat,q≤zs.length∧i=.int .i64 q∧(∀e (h:e<q) (h2:e<zs.length),lineSum l zs[e]=0)∧Tf w2 wr) (fun i _=>zs.length-(intOf i).toNat)
   case atStart=>exact⟨0,by omega,rfl,(fun e h=>by omega),Tch.refl _ _⟩
   case round=>
    obtain⟨q,hq,rfl,hsum,hs⟩:=hrel;have HSM:=Lib.hid hsum;clear hsum;have ts:=t12.trans hs;by_cases hqt:q<zs.length
    ·have hqt':(q:Int)<(zs.length:Int):=by omega
     have hq0:=znn q;obtain⟨g,o,rfl⟩:=hu.head (by omega);have d0:=Row.one (hu.keep hs) int1_len hqt rfl;obtain⟨f0,f1,f2⟩:=(hb1.keep ts id).f3;have HX:=Lib.hid ((HM.out zs[q]).1 (List.getElem_mem _));have HT:=entotal_any p r zs[q] (hl2.keep ts) h64 hn
     have HZ:=Lib.hid (show lineSum l zs[q]=0→∀e (h:e<q+1) (h2:e<zs.length),lineSum l zs[e]=0 from fun h0 e h h2=>by
      rcases Nat.lt_succ_iff_lt_or_eq.1 h with h|h
      ·exact HSM.out e h h2
      ·subst h;exact h0)
     generalize zs[q]=y at *;by_cases hy:lineSum l y=0
     ·rw[hy]at HT;have HT:Hid (Calls Tryz.prog 226 #[.agg #[.int .i64 p,.int .i64 r,.slice A l.length c],.int .i64 y] wr fun x w'=>x=.returned (.tuple #[.int .i64 0,.int .i64 0])∧Tf wr w'):=Lib.hid HT;have HZ:=Lib.hid (HZ.out hy);clear hy;go_wp2_with fail;refine HT.out.mono ?_;rintro _ w5 ⟨rfl,t5⟩;clear HT f0 f1 f2 d0;go_wp2;go_roundw
      case rel=>exact⟨q+1,by omega,by go_num,HZ.out,hs.trans t5⟩
      case measure=>simp[intOf];omega
     ·obtain rfl:ok=false:=by
       obtain⟨e,he,rfl⟩:=List.mem_map.1 HX.out;rw[←HOK.out,List.all_eq_false];exact⟨e,he,by simpa using hy⟩
      obtain⟨n1,n2,hn12,e12⟩:∃n1 n2:Int,(n1=0→(n2 !=0)=true)∧asTold (lineSum l y)=.tuple #[.int .i64 n1,.int .i64 n2]:=by
       unfold asTold;split
       ·exact⟨_,_,fun h=>absurd h hy,rfl⟩
       ·exact⟨_,_,fun _=>rfl,rfl⟩
      rw[e12]at HT;have HT:=Lib.hid HT;have H12:=Lib.hid hn12;clear hn12 e12 HZ hy;go_wp2_with fail;refine HT.out.mono ?_;rintro _ w5 ⟨rfl,t5⟩;clear HT f0 f1 f2 d0;have tt:=tw1.trans (ts.trans t5);by_cases h0:n1=0
      ·subst h0;have h02:=H12.out rfl;go_wp2;go_ret2
       exact RetAt.no rfl tt
      ·have h01:(n1 !=0)=true:=by simpa using h0
       go_wp2;go_ret2
       exact RetAt.no rfl tt
    ·obtain rfl:zs.length=q:=by omega
     obtain rfl:ok=true:=by
      rw[←HOK.out,List.all_eq_true];intro e he;obtain⟨i,hi,hie⟩:=List.mem_iff_getElem.1 ((HM.out e.1).2 (List.mem_map_of_mem he));have:=HSM.out i hi hi;rw[hie]at this;simpa using this
     have tt:=tw1.trans ts;have f2:=(hb1.keep ts id).at2;go_wp2;go_ret2
     exact RetAt.yes tt
open Go.RowKit Go.Gk
theorem index_any {w:World} {v:Value} {l:List Int} (hl:RowsOf int1 1 (fun _=>True) w v l) (hn:l.length≤100000) (x:Int):
 Calls Tryz.prog 127 #[v,.int .i64 x] w (RetIdx (l.any fun y=>x==y) w):=by
 obtain⟨A,c,rfl,hc1,hc2⟩:=hl.form;go_enter Tryz.func127,Tryz.ntmps127;go_wp2_with fail;go_loopw [8] (fun i wr=>∃j:Nat,j≤l.length∧i=.int .i64 j∧(l.take j).any (fun y=>x==y)=false∧Tf w wr) (fun i _=>l.length-(intOf i).toNat)
 case atStart=>exact⟨0,Nat.zero_le _,rfl,rfl,Tch.refl _ _⟩
 case round=>
  obtain⟨j,hj,rfl,h2,ht⟩:=hrel;have H2:=Lib.hid h2;clear h2;by_cases hlt:j<l.length
  ·obtain⟨g',o,rfl⟩:=hl.head (by omega);have q0:=Row.one (hl.keep ht) int1_len hlt rfl;have HS:=Lib.hid (any_take_succ (p:=fun y=>x==y) hlt);have HY:=Lib.hid (fun h=>any_yes (p:=fun y=>x==y) hlt h);generalize l[j]=y at *;have hlt':(j:Int)<(l.length:Int):=by omega
   have hj0:=znn j
   cases hb:(x==y)
   ·rw[hb]at HS;clear HY;go_wp2;go_roundw
    case rel=>exact⟨j+1,by omega,by go_num,by rw[HS.out,H2.out];rfl,ht⟩
    case measure=>simp[intOf];omega
   ·have hy:=HY.out hb;clear HY;go_wp2;go_ret;exact⟨j,rfl,by omega,by omega,by rw[hy];simp,ht⟩
  ·obtain rfl:l.length=j:=by omega
   rw[List.take_length]at H2;go_wp2;go_ret;exact⟨-1,rfl,by omega,by omega,by rw[H2.out];rfl,ht⟩
theorem contains_any {w:World} {v:Value} {l:List Int} (hl:RowsOf int1 1 (fun _=>True) w v l) (hn:l.length≤100000) (x:Int):
 Calls Tryz.prog 55 #[v,.int .i64 x] w (RetB (l.contains x) w):=by
 have hi:=index_any hl hn x;rw[←List.contains_eq_any_beq]at hi;obtain⟨A,c,rfl,hc1,hc2⟩:=hl.form;generalize l.contains x=b at *;have HI:=Lib.hid hi;clear hi hl hn;go_enter Tryz.func55,Tryz.ntmps55;go_wp2_with fail;refine HI.out.mono ?_;rintro _ w1 ⟨i,rfl,h1,h2,h3,t⟩
 cases b
 ·have h0:¬0≤i:=by simpa using h3
  clear h3;go_wp2;go_ret;exact⟨by first|(simp;done)|(simpa using h0),t⟩
 ·have h0:0≤i:=by simpa using h3
  clear h3;go_wp2;go_ret;exact⟨by first|(simp;done)|(simpa using h0),t⟩
theorem idxline_any {w:World} {v:Value} {l:List Ln4} (hl:RowsOf int4 4 (fun _=>True) w v l) (hn:l.length≤100000) (p:Ln4→Bool) (g:Nat) (lb:Array Value) (eg:∀args w,(callFunc g args).run Tryz.prog w=.ok (.enter g args) w)
 (hp:∀(x:Ln4) w',Tf w w'→Calls Tryz.prog g (#[.agg #[.int .i64 x.1,.int .i64 x.2.1,.int .i64 x.2.2.1,.int .i64 x.2.2.2]]++lb) w' (RetB (p x) w')):
 Calls Tryz.prog 271 #[v,.func (.func g) #[] lb] w (RetIdx (l.any p) w):=by
 obtain⟨A,c,rfl,hc1,hc2⟩:=hl.form;have HP:=Lib.hid hp;clear hp;go_enter Tryz.func271,Tryz.ntmps271;go_wp2_with fail;go_loopw [8] (fun i wr=>∃j:Nat,j≤l.length∧i=.int .i64 j∧(l.take j).any p=false∧Tf w wr) (fun i _=>l.length-(intOf i).toNat)
 case atStart=>exact⟨0,Nat.zero_le _,rfl,rfl,Tch.refl _ _⟩
 case round=>
  obtain⟨j,hj,rfl,h2,ht⟩:=hrel;have H2:=Lib.hid h2;clear h2;by_cases hlt:j<l.length
  ·obtain⟨g',o,rfl⟩:=hl.head (by omega);obtain⟨q0,q1,q2,q3⟩:=Row.four (hl.keep ht) int4_len hlt rfl;have hs:=any_take_succ (p:=p) hlt;have hy:=fun h=>any_yes (p:=p) hlt h
   have HC:=Lib.hid (HP.out l[j] wr ht);have HS:=Lib.hid hs;have HY:=Lib.hid hy;clear hs hy;generalize l[j]=x at *;have hlt':(j:Int)<(l.length:Int):=by omega
   have hj0:=znn j;go_wp2_with fail;refine HC.out.mono ?_;rintro _ w2 ⟨rfl,t2⟩;clear HC
   cases hb:p x
   ·rw[hb]at HS;clear hb HY;go_wp2;go_roundw
    case rel=>exact⟨j+1,by omega,by go_num,by rw[HS.out,H2.out];rfl,ht.trans t2⟩
    case measure=>simp[intOf];omega
   ·have hy:=HY.out hb;clear hb HY;go_wp2;go_ret;exact⟨j,rfl,by omega,by omega,by rw[hy];simp,ht.trans t2⟩
  ·obtain rfl:l.length=j:=by omega
   rw[List.take_length]at H2;go_wp2;go_ret;exact⟨-1,rfl,by omega,by omega,by rw[H2.out];rfl,ht⟩
theorem hasline_any {w:World} {v:Value} {l:List Ln4} (hl:RowsOf int4 4 (fun _=>True) w v l) (hn:l.length≤100000) (p:Ln4→Bool) (g:Nat) (lb:Array Value) (eg:∀args w,(callFunc g args).run Tryz.prog w=.ok (.enter g args) w)
 (hp:∀(x:Ln4) w',Tf w w'→Calls Tryz.prog g (#[.agg #[.int .i64 x.1,.int .i64 x.2.1,.int .i64 x.2.2.1,.int .i64 x.2.2.2]]++lb) w' (RetB (p x) w')):
 Calls Tryz.prog 229 #[v,.func (.func g) #[] lb] w (RetB (l.any p) w):=by
 have hi:=idxline_any hl hn p g lb eg hp;obtain⟨A,c,rfl,hc1,hc2⟩:=hl.form;generalize l.any p=b at *;have HI:=Lib.hid hi;clear hi hp hl hn;go_enter Tryz.func229,Tryz.ntmps229;go_wp2_with fail;refine HI.out.mono ?_;rintro _ w1 ⟨i,rfl,h1,h2,h3,t⟩
 cases b
 ·have h0:¬0≤i:=by simpa using h3
  clear h3;go_wp2;go_ret;exact⟨by first|(simp;done)|(simpa using h0),t⟩
 ·have h0:0≤i:=by simpa using h3
  clear h3;go_wp2;go_ret;exact⟨by first|(simp;done)|(simpa using h0),t⟩
theorem placed1_any (a b p m:Int) (w:World):
 Calls Tryz.prog 227 #[.agg #[.int .i64 a,.int .i64 b,.int .i64 p,.int .i64 m]] w (RetB (decide (b≤3)) w):=by
 have tw:=tal w (.cells #[.int .i64 a,.int .i64 b,.int .i64 p,.int .i64 m] 150);by_cases h:b≤3
 ·rw[decide_eq_true h];go_enter Tryz.func227,Tryz.ntmps227;go_wp2;go_ret;exact⟨by simp,tw⟩
 ·rw[decide_eq_false h];go_enter Tryz.func227,Tryz.ntmps227;go_wp2;go_ret;exact⟨by simp,tw⟩
theorem placed2_any (a b p m:Int) {w:World} {g:Nat} {v:Value} {l:List Int} (hg:w.cell? ⟨g,0,none⟩=some v) (hl:RowsOf int1 1 (fun _=>True) w v l) (hn:l.length≤100000):
 Calls Tryz.prog 228 #[.agg #[.int .i64 a,.int .i64 b,.int .i64 p,.int .i64 m],.pointer (some ⟨g,0,none⟩)] w (RetB (!l.contains b) w):=by
 obtain⟨A,c,rfl,hc1,hc2⟩:=hl.form;have tw:=tal w (.cells #[.int .i64 a,.int .i64 b,.int .i64 p,.int .i64 m] 150);have hg1:=tw.cell_some hg id;have HC:=Lib.hid (contains_any (hl.keep tw) hn b);generalize l.contains b=R at *;clear hl;go_enter Tryz.func228,Tryz.ntmps228;go_wp2_with fail;refine HC.out.mono ?_;rintro _ w1 ⟨rfl,t1⟩;go_wp2;go_ret;exact⟨rfl,tw.trans t1⟩
theorem placed_any (p r:Int) {w:World} {u v:Value} {l:List Ln4} {k:List Int} (hl:RowsOf int4 4 (fun _=>True) w u l) (hk:RowsOf int1 1 (fun _=>True) w v k) (hn:l.length≤1000) (hkn:k.length≤1000):
 Calls Tryz.prog 163 #[.agg #[.int .i64 p,.int .i64 r,u],v] w (RetOk (placedOK ⟨p,r,l⟩ k) w):=by
 obtain⟨A,c,rfl,hc1,hc2⟩:=hl.form;obtain⟨A',c',rfl,hc1',hc2'⟩:=hk.form
 obtain⟨W,hW⟩:∃W,(w.alloc (.cells #[.int .i64 p,.int .i64 r,.slice A l.length c] 146)).alloc (.cells #[.slice A' k.length c'] 22)=W:=⟨_,rfl⟩
 have tw:Tf w W:=hW▸(Tch.alloc _ _ _).trans (Tch.alloc _ _ _);have hb1:Blk W w.heap.size 146 #[.int .i64 p,.int .i64 r,.slice A l.length c]:=hW▸(Blk.new w 146 _).alloc _;have hb2:Blk W (w.heap.size+1) 22 #[.slice A' k.length c']:=hW▸Blk.new2 w _ 22 _;have h1:=hasline_any (hl.keep tw) (by omega) (fun x=>decide (x.2.1≤3)) 227 #[] (enters_of Tryz.func227 (by kernel_rfl) rfl) (fun x w' _=>placed1_any x.1 x.2.1 x.2.2.1 x.2.2.2 w');have h2:=fun w1 (t:Tf W w1)=>hasline_any ((hl.keep tw).keep t) (by omega) (fun x=>!k.contains x.2.1) 228 #[.pointer (some ⟨w.heap.size+1,0,none⟩)] (enters_of Tryz.func228 (by kernel_rfl) rfl) (fun x w' t'=>placed2_any x.1 x.2.1 x.2.2.1 x.2.2.2 ((hb2.keep (t.trans t') id).cell 0) ((hk.keep tw).keep (t.trans t')) (by omega))
 have q2:=hb1.at2;have HB:=Lib.hid hb1;unfold placedOK;simp only;generalize(l.any fun x=>decide (x.2.1≤3))=b1 at *;generalize(l.any fun x=>!k.contains x.2.1)=b2 at *;have H1:=Lib.hid h1;have H2:=Lib.hid h2;have HW:=Lib.hid hW;clear h1 h2 hW hb2 hl hk hb1;go_enter Tryz.func163,Tryz.ntmps163;go_wp2_with fail;rw[HW.out];generalize w.heap.size=z at *;refine H1.out.mono ?_;rintro _ w1 ⟨rfl,t1⟩;clear H1
 cases b1
 ·have q3:=(HB.out.keep t1 id).at2;go_wp2_with fail;refine(H2.out w1 t1).mono ?_;rintro _ w2 ⟨rfl,t2⟩;clear H2;have tt:=tw.trans (t1.trans t2)
  cases b2
  ·go_wp2;go_ret;exact RetOk.yes tt
  ·go_wp2;go_ret;exact RetOk.no rfl tt
 ·go_wp2;go_ret;exact RetOk.no rfl (tw.trans t1)
end Go.Proofs.YtnjhfcopphpkpaaGreatDoor
namespace Go.Gk
open Go.RowKit
theorem own_set {w:World} {base:Nat} {e:TypeId} {size n c g:Nat} {xs:List Value} (h:w.ownsRow base e size (.slice (some ⟨g,0,none⟩) n c) n xs) (j:Nat) (u:Value):(w.setCell ⟨g,j,none⟩ u).ownsRow base e size (.slice (some ⟨g,0,none⟩) n c) n (xs.set j u):=by
 refine⟨by rw[List.length_set];exact h.1,?_⟩
 rcases h.2 with⟨h,_⟩|⟨g',cap,cur,h1,h2,h3,h4,h5,h6,h7⟩
 ·cases h
 ·injection h1 with e1 e2 e3;injection e1 with e1;injection e1 with e1;subst e1 e3;have hb:Blk w g e cur:=h3;have hb':=hb.set_ j u;refine .inr ⟨g,c,_,rfl,h2,hb',h4,h5,by simpa using h6,?_⟩;rw[←h7,Array.toList_setIfInBounds,List.take_set]
theorem own_frozen {w:World} {base:Nat} {e:TypeId} {size n c g:Nat} {xs:List Value} (h:w.ownsRow base e size (.slice (some ⟨g,0,none⟩) n c) n xs) (j:Nat):w.frozen? ⟨g,j,none⟩=false:=by
 rcases h.2 with⟨h,_⟩|⟨g',cap,cur,h1,h2,h3,_⟩
 ·cases h
 ·injection h1 with e1 e2 e3;injection e1 with e1;injection e1 with e1;subst e1;exact(show Blk w g e cur from h3).frozen j
theorem flat_set {α:Type} {f:α→List Value} {size:Nat} (hf:∀a,(f a).length=size):∀(l:List α) (i j:Nat) (u:Value) (a':α) (hi:i<l.length),j<size→f a'=(f l[i]).set j u→(l.flatMap f).set (i*size+j) u=(l.set i a').flatMap f
 |b::r,0,j,u,a',_,hj,h=>by
  simp only[List.getElem_cons_zero]at h;simp only[List.flatMap_cons,List.set_cons_zero,Nat.zero_mul,Nat.zero_add];rw[List.set_append_left _ _ (by rw[hf];exact hj),h]
 |b::r,i+1,j,u,a',hi,hj,h=>by
  have ih:=flat_set hf r i j u a' (by simpa using hi) hj (by simpa using h);simp only[List.flatMap_cons,List.set_cons_succ];rw[List.set_append_right _ _ (by rw[hf,Nat.add_mul];omega),hf,show(i+1)*size+j-size=i*size+j by rw[Nat.add_mul];omega,ih]
theorem results_row_tmp {P:Program} {fn:Func} {p u:Tmp} {ty:TypeId} (h:fn.results= #[.cell p ty,.tmp u]) (tmps:Array Value) (w:World) (g:Nat) (t:TypeId) (cs:Array Value) (fr:Nat×Nat) (d:TypeDesc)
 (hp:tmps.getD p undef=.pointer (some ⟨g,0,none⟩)) (hg:w.heap[g]?=some (.cells cs t fr))
 (hu:P.underlying ty=some d) (hd:(match d with | .struct _| .array _ _=>true|_=>false)=true) (hi:(P.info? ty).map (·.size)=some cs.size):
 (results fn tmps).run P w=.ok (.tuple #[.agg cs,tmps.getD u undef]) w:=by
 rw[results_cell_tmp h,hp];simp[asAddr,run_loadVar_row w g t ty cs fr d hg hu hd hi,Result.andThen]
theorem retT {P:Program} {fn:Func} {R:Ending→World→Prop} {a:Act} {w:World} {p u:Tmp} {ty:TypeId} {g:Nat} {t:TypeId} {cs:Array Value} (hg:Blk w g t cs) (hR:R (.returned (.tuple #[.agg cs,a.tmps.getD u undef])) w) (h:fn.results= #[.cell p ty,.tmp u]:=by rfl) (hp:a.tmps.getD p undef=.pointer (some ⟨g,0,none⟩):=by rfl)
 (hu:isRow P ty=true:=by kernel_rfl) (hi:(P.info? ty).map (·.size)=some cs.size:=by kernel_rfl) (hd:a.defers=[]:=by rfl):bodyPost P fn R .ret a w:=by
 obtain⟨d,h1,h2⟩:=isRow_some hu;exact bodyPost_ret (results_row_tmp h _ _ g t cs (0,0) d hp hg h1 (by cases d<;>first|rfl|cases h2) hi) hd hR
theorem Tch.sets3 (w:World) (z:Nat) (a b c:Value):Tch (fun g=>g=z) w (((w.setCell ⟨z,0,none⟩ a).setCell ⟨z,1,none⟩ b).setCell ⟨z,2,none⟩ c):=
 ((Tch.setCell (F:=fun k=>k=z) w (p:=⟨z,0,none⟩) (.inl rfl) a).trans (Tch.setCell (F:=fun k=>k=z) _ (p:=⟨z,1,none⟩) (.inl rfl) b)).trans (Tch.setCell (F:=fun k=>k=z) _ (p:=⟨z,2,none⟩) (.inl rfl) c)
theorem one_int4 (l:List (Int×Int×Int×Int)):∀u∈l.flatMap int4,u.oneCell'=true:=fun u hu=>by
 obtain⟨x,_,hx⟩:=List.mem_flatMap.1 hu;simp[int4]at hx;rcases hx with rfl|rfl|rfl|rfl<;>rfl
theorem one_int1 (l:List Int):∀u∈l.flatMap int1,u.oneCell'=true:=fun u hu=>by
 obtain⟨x,_,hx⟩:=List.mem_flatMap.1 hu;simp[int1]at hx;subst hx;rfl
theorem one_int2 (l:List (Int×Int)):∀u∈l.flatMap int2,u.oneCell'=true:=fun u hu=>by
 obtain⟨x,_,hx⟩:=List.mem_flatMap.1 hu;simp[int2]at hx;rcases hx with rfl|rfl<;>rfl
theorem one_int6 (l:List Rt6):∀u∈l.flatMap int6,u.oneCell'=true:=fun u hu=>by
 obtain⟨x,_,hx⟩:=List.mem_flatMap.1 hu;simp[int6]at hx;rcases hx with rfl|rfl|rfl|rfl|rfl|rfl<;>rfl
theorem one_acc4 (l:List Acc):∀u∈l.flatMap acc4,u.oneCell'=true:=fun u hu=>by
 obtain⟨x,_,hx⟩:=List.mem_flatMap.1 hu;simp[acc4]at hx;rcases hx with rfl|rfl|rfl|rfl<;>rfl
theorem one_entC (l:List (Ent×Value)) (h:∀p∈l,p.2.oneCell'=true):∀u∈l.flatMap entC,u.oneCell'=true:=fun u hu=>by
 obtain⟨x,hx0,hx⟩:=List.mem_flatMap.1 hu;simp[entC]at hx;rcases hx with rfl|rfl|rfl
 ·rfl
 ·rfl
 ·exact h x hx0
end Go.Gk
namespace Go.Proofs.YtnjhfcopphpkpaaGreatDoor
open Go.RowKit Go.Gk
theorem cloneints_any {w:World} {v:Value} {l:List Int} (hl:RowsOf int1 1 (fun _=>True) w v l) (hn:l.length≤100000):
 Calls Tryz.prog 68 #[v] w fun e w'=>∃u,e=.returned u∧Outs int1 1 3 w w' u l:=by
 obtain⟨A,c,rfl,hc1,hc2⟩:=hl.form;have hq:∀(w:World) (a:Option Addr) (n c n' c':Nat),(binOp .eql 22 (.slice a n c) (.slice none n' c')).run Tryz.prog w=.ok (.bool a.isNone) w:=fun w a n c n' c'=>Lib.run_eql_slice_nil w _ _ a n c n' c' Tryz.underlying22
 cases A with
 |none=>
  obtain⟨h0,rfl⟩:=hl.src.nil rfl;obtain rfl:l=[]:=List.eq_nil_of_length_eq_zero h0;clear hl;go_enter Tryz.func68,Tryz.ntmps68;go_wp2;go_ret;exact⟨_,rfl,Outs.start _ _ _ (Tch.refl _ _)⟩
 |some a=>
  have tw:=tal w (.cells #[] 3);have hs:=hl.src.keep tw (fun _ _=>id);have h1':=one_int1 l;go_enter Tryz.func68,Tryz.ntmps68;go_wp2_with (at_builtin;refine apd rowInts (own_made w 3 1 0 #[] (Nat.zero_le _) rfl) hs h1' ?_;intro v2 w2 ho2 hg2 hl2);go_ret;rw[List.nil_append,Nat.zero_add]at ho2;refine⟨_,rfl,own_up ho2 fun g hg=>?_,tw.trans' (Tch.grown (F:=fun k=>w.heap.size≤k) hg2 fun k hk=>.inl (by have:=own_at hk;omega)) fun i hi=>.inr hi⟩;rcases hl2 g hg with h1|h1
  ·have:=own_at h1;omega
  ·simp at h1;omega
theorem rowAccounts:RowTy Tryz.prog 23 81 (.agg #[.int .i64 0,.int .i64 0,.bool false,.bool false]) 4 24:=⟨Tryz.underlying23,by kernel_rfl,rfl,by decide⟩
theorem cloneaccs_any {w:World} {v:Value} {l:List Acc} (hl:RowsOf acc4 4 (fun _=>True) w v l) (hn:l.length≤100000):
 Calls Tryz.prog 88 #[v] w fun e w'=>∃u,e=.returned u∧Outs acc4 4 81 w w' u l:=by
 obtain⟨A,c,rfl,hc1,hc2⟩:=hl.form;have hq:∀(w:World) (a:Option Addr) (n c n' c':Nat),(binOp .eql 23 (.slice a n c) (.slice none n' c')).run Tryz.prog w=.ok (.bool a.isNone) w:=fun w a n c n' c'=>Lib.run_eql_slice_nil w _ _ a n c n' c' Tryz.underlying23
 cases A with
 |none=>
  obtain⟨h0,rfl⟩:=hl.src.nil rfl;obtain rfl:l=[]:=List.eq_nil_of_length_eq_zero h0;clear hl;go_enter Tryz.func88,Tryz.ntmps88;go_wp2;go_ret;exact⟨_,rfl,Outs.start _ _ _ (Tch.refl _ _)⟩
 |some a=>
  have tw:=tal w (.cells #[] 81);have hs:=hl.src.keep tw (fun _ _=>id);have h1':=one_acc4 l;go_enter Tryz.func88,Tryz.ntmps88;go_wp2_with (at_builtin;refine apd rowAccounts (own_made w 81 4 0 #[] (Nat.zero_le _) rfl) hs h1' ?_;intro v2 w2 ho2 hg2 hl2);go_ret;rw[List.nil_append,Nat.zero_add]at ho2;refine⟨_,rfl,own_up ho2 fun g hg=>?_,tw.trans' (Tch.grown (F:=fun k=>w.heap.size≤k) hg2 fun k hk=>.inl (by have:=own_at hk;omega)) fun i hi=>.inr hi⟩;rcases hl2 g hg with h1|h1
  ·have:=own_at h1;omega
  ·simp at h1;omega
theorem rowStakes:RowTy Tryz.prog 24 148 (.agg #[.int .i64 0,.int .i64 0,.int .i64 0,.int .i64 0]) 4 32:=⟨Tryz.underlying24,by kernel_rfl,rfl,by decide⟩
theorem clonestks_any {w:World} {v:Value} {l:List Stk4} (hl:RowsOf int4 4 (fun _=>True) w v l) (hn:l.length≤100000):
 Calls Tryz.prog 89 #[v] w fun e w'=>∃u,e=.returned u∧Outs int4 4 148 w w' u l:=by
 obtain⟨A,c,rfl,hc1,hc2⟩:=hl.form;have hq:∀(w:World) (a:Option Addr) (n c n' c':Nat),(binOp .eql 24 (.slice a n c) (.slice none n' c')).run Tryz.prog w=.ok (.bool a.isNone) w:=fun w a n c n' c'=>Lib.run_eql_slice_nil w _ _ a n c n' c' Tryz.underlying24
 cases A with
 |none=>
  obtain⟨h0,rfl⟩:=hl.src.nil rfl;obtain rfl:l=[]:=List.eq_nil_of_length_eq_zero h0;clear hl;go_enter Tryz.func89,Tryz.ntmps89;go_wp2;go_ret;exact⟨_,rfl,Outs.start _ _ _ (Tch.refl _ _)⟩
 |some a=>
  have tw:=tal w (.cells #[] 148);have hs:=hl.src.keep tw (fun _ _=>id);have h1':=one_int4 l;go_enter Tryz.func89,Tryz.ntmps89;go_wp2_with (at_builtin;refine apd rowStakes (own_made w 148 4 0 #[] (Nat.zero_le _) rfl) hs h1' ?_;intro v2 w2 ho2 hg2 hl2);go_ret;rw[List.nil_append,Nat.zero_add]at ho2;refine⟨_,rfl,own_up ho2 fun g hg=>?_,tw.trans' (Tch.grown (F:=fun k=>w.heap.size≤k) hg2 fun k hk=>.inl (by have:=own_at hk;omega)) fun i hi=>.inr hi⟩;rcases hl2 g hg with h1|h1
  ·have:=own_at h1;omega
  ·simp at h1;omega
theorem rowRates:RowTy Tryz.prog 25 166 (.agg #[.int .i64 0,.int .i64 0,.int .i64 0,.int .i64 0,.int .i64 0,.int .i64 0]) 6 48:=⟨Tryz.underlying25,by kernel_rfl,rfl,by decide⟩
theorem clonerates_any {w:World} {v:Value} {l:List Rt6} (hl:RowsOf int6 6 (fun _=>True) w v l) (hn:l.length≤100000):
 Calls Tryz.prog 90 #[v] w fun e w'=>∃u,e=.returned u∧Outs int6 6 166 w w' u l:=by
 obtain⟨A,c,rfl,hc1,hc2⟩:=hl.form;have hq:∀(w:World) (a:Option Addr) (n c n' c':Nat),(binOp .eql 25 (.slice a n c) (.slice none n' c')).run Tryz.prog w=.ok (.bool a.isNone) w:=fun w a n c n' c'=>Lib.run_eql_slice_nil w _ _ a n c n' c' Tryz.underlying25
 cases A with
 |none=>
  obtain⟨h0,rfl⟩:=hl.src.nil rfl;obtain rfl:l=[]:=List.eq_nil_of_length_eq_zero h0;clear hl;go_enter Tryz.func90,Tryz.ntmps90;go_wp2;go_ret;exact⟨_,rfl,Outs.start _ _ _ (Tch.refl _ _)⟩
 |some a=>
  have tw:=tal w (.cells #[] 166);have hs:=hl.src.keep tw (fun _ _=>id);have h1':=one_int6 l;go_enter Tryz.func90,Tryz.ntmps90;go_wp2_with (at_builtin;refine apd rowRates (own_made w 166 6 0 #[] (Nat.zero_le _) rfl) hs h1' ?_;intro v2 w2 ho2 hg2 hl2);go_ret;rw[List.nil_append,Nat.zero_add]at ho2;refine⟨_,rfl,own_up ho2 fun g hg=>?_,tw.trans' (Tch.grown (F:=fun k=>w.heap.size≤k) hg2 fun k hk=>.inl (by have:=own_at hk;omega)) fun i hi=>.inr hi⟩;rcases hl2 g hg with h1|h1
  ·have:=own_at h1;omega
  ·simp at h1;omega
theorem rowLocks:RowTy Tryz.prog 26 169 (.agg #[.int .i64 0,.int .i64 0]) 2 16:=⟨Tryz.underlying26,by kernel_rfl,rfl,by decide⟩
theorem clonelocks_any {w:World} {v:Value} {l:List Lk2} (hl:RowsOf int2 2 (fun _=>True) w v l) (hn:l.length≤100000):
 Calls Tryz.prog 91 #[v] w fun e w'=>∃u,e=.returned u∧Outs int2 2 169 w w' u l:=by
 obtain⟨A,c,rfl,hc1,hc2⟩:=hl.form;have hq:∀(w:World) (a:Option Addr) (n c n' c':Nat),(binOp .eql 26 (.slice a n c) (.slice none n' c')).run Tryz.prog w=.ok (.bool a.isNone) w:=fun w a n c n' c'=>Lib.run_eql_slice_nil w _ _ a n c n' c' Tryz.underlying26
 cases A with
 |none=>
  obtain⟨h0,rfl⟩:=hl.src.nil rfl;obtain rfl:l=[]:=List.eq_nil_of_length_eq_zero h0;clear hl;go_enter Tryz.func91,Tryz.ntmps91;go_wp2;go_ret;exact⟨_,rfl,Outs.start _ _ _ (Tch.refl _ _)⟩
 |some a=>
  have tw:=tal w (.cells #[] 169);have hs:=hl.src.keep tw (fun _ _=>id);have h1':=one_int2 l;go_enter Tryz.func91,Tryz.ntmps91;go_wp2_with (at_builtin;refine apd rowLocks (own_made w 169 2 0 #[] (Nat.zero_le _) rfl) hs h1' ?_;intro v2 w2 ho2 hg2 hl2);go_ret;rw[List.nil_append,Nat.zero_add]at ho2;refine⟨_,rfl,own_up ho2 fun g hg=>?_,tw.trans' (Tch.grown (F:=fun k=>w.heap.size≤k) hg2 fun k hk=>.inl (by have:=own_at hk;omega)) fun i hi=>.inr hi⟩;rcases hl2 g hg with h1|h1
  ·have:=own_at h1;omega
  ·simp at h1;omega
theorem rowLines:RowTy Tryz.prog 144 150 (.agg #[.int .i64 0,.int .i64 0,.int .i64 0,.int .i64 0]) 4 32:=⟨Tryz.underlying144,by kernel_rfl,rfl,by decide⟩
theorem clonelines_any {w:World} {v:Value} {l:List Ln4} (hl:RowsOf int4 4 (fun _=>True) w v l) (hn:l.length≤100000):
 Calls Tryz.prog 93 #[v] w fun e w'=>∃u,e=.returned u∧Outs int4 4 150 w w' u l:=by
 obtain⟨A,c,rfl,hc1,hc2⟩:=hl.form;have hq:∀(w:World) (a:Option Addr) (n c n' c':Nat),(binOp .eql 144 (.slice a n c) (.slice none n' c')).run Tryz.prog w=.ok (.bool a.isNone) w:=fun w a n c n' c'=>Lib.run_eql_slice_nil w _ _ a n c n' c' Tryz.underlying144
 cases A with
 |none=>
  obtain⟨h0,rfl⟩:=hl.src.nil rfl;obtain rfl:l=[]:=List.eq_nil_of_length_eq_zero h0;clear hl;go_enter Tryz.func93,Tryz.ntmps93;go_wp2;go_ret;exact⟨_,rfl,Outs.start _ _ _ (Tch.refl _ _)⟩
 |some a=>
  have tw:=tal w (.cells #[] 150);have hs:=hl.src.keep tw (fun _ _=>id);have h1':=one_int4 l;go_enter Tryz.func93,Tryz.ntmps93;go_wp2_with (at_builtin;refine apd rowLines (own_made w 150 4 0 #[] (Nat.zero_le _) rfl) hs h1' ?_;intro v2 w2 ho2 hg2 hl2);go_ret;rw[List.nil_append,Nat.zero_add]at ho2;refine⟨_,rfl,own_up ho2 fun g hg=>?_,tw.trans' (Tch.grown (F:=fun k=>w.heap.size≤k) hg2 fun k hk=>.inl (by have:=own_at hk;omega)) fun i hi=>.inr hi⟩;rcases hl2 g hg with h1|h1
  ·have:=own_at h1;omega
  ·simp at h1;omega
theorem rowEntries:RowTy Tryz.prog 27 146 (.agg #[.int .i64 0,.int .i64 0,.slice none 0 0]) 3 40:=⟨Tryz.underlying27,by kernel_rfl,rfl,by decide⟩
theorem cloneents_any {w:World} {v:Value} {l:List (Ent×Value)} (hl:RowsOf entC 3 (fun _=>True) w v l) (hn:l.length≤100000) (h1:∀p∈l,p.2.oneCell'=true):
 Calls Tryz.prog 92 #[v] w fun e w'=>∃u,e=.returned u∧Outs entC 3 146 w w' u l:=by
 obtain⟨A,c,rfl,hc1,hc2⟩:=hl.form;have hq:∀(w:World) (a:Option Addr) (n c n' c':Nat),(binOp .eql 27 (.slice a n c) (.slice none n' c')).run Tryz.prog w=.ok (.bool a.isNone) w:=fun w a n c n' c'=>Lib.run_eql_slice_nil w _ _ a n c n' c' Tryz.underlying27
 cases A with
 |none=>
  obtain⟨h0,rfl⟩:=hl.src.nil rfl;obtain rfl:l=[]:=List.eq_nil_of_length_eq_zero h0;clear hl;go_enter Tryz.func92,Tryz.ntmps92;go_wp2;go_ret;exact⟨_,rfl,Outs.start _ _ _ (Tch.refl _ _)⟩
 |some a=>
  have tw:=tal w (.cells #[] 146);have hs:=hl.src.keep tw (fun _ _=>id);have h1':=one_entC l h1;go_enter Tryz.func92,Tryz.ntmps92;go_wp2_with (at_builtin;refine apd rowEntries (own_made w 146 3 0 #[] (Nat.zero_le _) rfl) hs h1' ?_;intro v2 w2 ho2 hg2 hl2);go_ret;rw[List.nil_append,Nat.zero_add]at ho2;refine⟨_,rfl,own_up ho2 fun g hg=>?_,tw.trans' (Tch.grown (F:=fun k=>w.heap.size≤k) hg2 fun k hk=>.inl (by have:=own_at hk;omega)) fun i hi=>.inr hi⟩;rcases hl2 g hg with h1|h1
  ·have:=own_at h1;omega
  ·simp at h1;omega
