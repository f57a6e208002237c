/-
  Trailing zeros, by the table of the library; the greatest common divisor.
-/
import Derived.Test.YtoegobjnjljegaaGreatDoorGc
import Derived.Test.YtoegobjnjljegaaGreatDoorZ4
import Derived.Shelf.Spec.TrailingZeros
set_option maxRecDepth 100000
set_option maxHeartbeats 3200000
namespace Go.Gk
def Tab64 (g:Nat) (w:World):Prop:=∀j,j<64→w.cell? ⟨g,j,none⟩=some (.int .u8 (Lib.deBruijn64tab.getD j 0))
theorem Tab64.keep {g:Nat} {w w':World} (h:Tab64 g w) (t:Tf w w'):Tab64 g w':=fun j hj=>t.cell_some (h j hj) id
end Go.Gk
namespace Go.Proofs.YtoegobjnjljegaaGreatDoor
open Go.RowKit Go.Gk
theorem zxw (x k idx:Nat) (w:World) (hx0:((x:Int)==0)=false)
 (key:IntKind.u64.wrap (bits BinOp.and IntKind.u64 (x:Int) (IntKind.u64.wrap (-(x:Int)))*285870213051353865)/288230376151711744=(idx:Int))
 (hi:idx<64) (hk:k<64) (hcell:w.cell? ⟨0,idx,none⟩=some (.int .u8 k)):
 Calls Tryz.prog 150 #[.int .u64 x] w fun e w'=>e=.returned (iV k)∧w'=w:=by
 go_enter Tryz.func150,Tryz.ntmps150;go_wp2_with (simp only[key]);go_ret;exact⟨rfl,rfl⟩
theorem tz64_any (x:Nat) (h0:0<x) (hx:x<18446744073709551616) (w:World) (hT:Tab64 0 w):
 Calls Tryz.prog 150 #[.int .u64 x] w fun e w'=>e=.returned (iV (Lib.ctz 64 x:Nat))∧w'=w:=by
 have hx0:x≠0:=by omega
 obtain⟨hlow,hk⟩:=Lib.lowest_bit 64 x hx0 hx;obtain⟨hi,htab⟩:=Lib.deBruijn64_at _ hk;have hcell:=hT _ hi;rw[htab]at hcell;exact zxw x _ _ w (by simp;omega) (tz64_key x _ hx hx0 hlow) hi hk hcell
theorem tz_any (x:Nat) (h0:0<x) (hx:x<18446744073709551616) (w:World) (hT:Tab64 0 w):
 Calls Tryz.prog 335 #[.int .u64 x] w fun e w'=>e=.returned (iV (Lib.ctz 64 x:Nat))∧w=w':=by
 have H:=Lib.hid (tz64_any x h0 hx w hT);generalize Lib.ctz 64 x=k at *;have hw:IntKind.u64.wrap (x:Int)=(x:Int):=by rw[IntKind.wrap_u64];omega
 clear hT;go_enter Tryz.func335,Tryz.ntmps335;go_wp2_with fail;refine H.out.mono ?_;rintro _ _ ⟨rfl,rfl⟩;go_wp2;go_ret;exact⟨rfl,rfl⟩
theorem zve (a b:Nat) (ha:0<a) (hb:0<b) (a64:a≤1000000000000) (b64:b≤1000000000000) (w0:World) (hT:Tab64 0 w0):
 Calls Tryz.prog 305 #[.int .u64 a,.int .u64 b] w0 fun e w'=>e=.returned (iV (Nat.gcd a b:Nat))∧w0=w':=by
 have HA:=Lib.hid (tz_any a ha (by omega) w0 hT);have HB:=Lib.hid (fun(x:Nat) (h:0<x) (h9:x≤1000000000000)=>tz_any x h (by omega) w0 hT);have HG:=zxu ha hb (by omega) (by omega);obtain⟨hka,hda,hoa⟩:=zgh ha (by omega);have hkb:=(zgh hb (by omega)).1;have HSA:=Lib.hid (show((a:Int))/2^(Lib.ctz 64 a)=((od a:Nat):Int) by unfold od;simp);have HOA:=Lib.hid hoa;have HXL:=Lib.hid (show od a≤1000000000000 from Nat.le_trans od_le a64);have HB1:=Lib.hid (HB.out b hb b64);generalize Lib.ctz 64 b=kb at *;generalize Lib.ctz 64 a=ka at *;clear hT hda hoa;rcases Nat.lt_or_ge kb ka with h|h
 ·have hmn:min ka kb=kb:=by omega
  have hlt:(kb:Int)<(ka:Int):=by omega
  rw[hmn]at HG;have HGG:=Lib.hid HG;clear hmn HG h;go_enter Tryz.func305,Tryz.ntmps305;go_wp2_with fail;refine HA.out.mono ?_;rintro _ _ ⟨rfl,rfl⟩;go_wp2_with fail;refine HB1.out.mono ?_;rintro _ _ ⟨rfl,rfl⟩;go_wp2_with fail;refine HA.out.mono ?_;rintro _ _ ⟨rfl,rfl⟩;go_wp2_with fail;rw[HSA.out];generalize hx0:od a=x0 at *;have HX0:=Lib.hid hx0;clear hx0;go_loopw [0,1] (fun u v wr=>∃x y:Nat,u=.int .u64 x∧v=.int .u64 y∧(x%2=1∧x≤1000000000000∧y≤1000000000000)∧Nat.gcd x y=Nat.gcd x0 b∧w0=wr) (fun u v _=>(intOf u).toNat+(intOf v).toNat)
  case atStart=>exact⟨x0,b,rfl,rfl,⟨HOA.out,HXL.out,b64⟩,rfl,rfl⟩
  case round=>
   obtain⟨x,y,rfl,rfl,⟨ho,hx9,hy9⟩,hg,rfl⟩:=hrel;have HG2:=Lib.hid hg;have HO2:=Lib.hid ho;clear hg ho;by_cases hy:y=0
   ·subst hy
    have HE:=Lib.hid (show((x:Int)*2^kb)=((Nat.gcd a b:Nat):Int) by
     have h1:=HG2.out;rw[Nat.gcd_zero_right]at h1;rw[←HGG.out,←h1]
     simp)
    have HL:=Lib.hid (show Nat.gcd a b≤1000000000000 from Nat.le_trans (Nat.gcd_le_left b ha) a64);clear HG2
    obtain⟨G,hG⟩:∃G,Nat.gcd a b=G:=⟨_,rfl⟩
    rw[hG]at HE HL;have HGE:=Lib.hid hG;clear hG HGG;have hG9:=HL.out;have hwr:IntKind.u64.wrap ((x:Int)*2^kb)=(G:Int):=by rw[HE.out,IntKind.wrap_u64];omega
    have hwi:IntKind.i64.wrap (G:Int)=(G:Int):=by rw[IntKind.wrap_i64];omega
    go_wp2_with (simp only[hwr,hwi]);go_ret;rw[HGE.out];exact⟨rfl,rfl⟩
   ·have hy1:0<y:=by omega
    have hy':((y:Int) !=0)=true:=by simp;omega
    obtain⟨r1,r2⟩:=zqe HO2.out hy1 (by omega);have HR1:=Lib.hid r1;have HR2:=Lib.hid r2;have HS:=Lib.hid (show((y:Int))/2^(Lib.ctz 64 y)=((od y:Nat):Int) by unfold od;simp);have HTY:=Lib.hid (HB.out y hy1 hy9);have hol:od y≤1000000000000:=Nat.le_trans od_le hy9
    obtain⟨ky,hky⟩:∃k,Lib.ctz 64 y=k:=⟨_,rfl⟩
    have hky9:=(zgh hy1 (by omega)).1;rw[hky]at HS HTY hky9;generalize od y=q at *;clear r1 r2 hky hy;go_wp2_with fail;refine HTY.out.mono ?_;rintro _ _ ⟨rfl,rfl⟩;have hsh:=HS.out;by_cases hlt:q<x
    ·obtain⟨g1,g2,g3⟩:=HR1.out hlt;have hlt':(q:Int)<(x:Int):=by omega
     have hw:IntKind.u64.wrap ((x:Int)-(q:Int))=((x-q:Nat):Int):=by rw[IntKind.wrap_u64];omega
     have G1:=Lib.hid g1;clear g1 hlt;go_wp2_with fail;go_roundw
     case rel=>exact⟨q,x-q,by go_num,by go_num,⟨g2,by omega,by omega⟩,by rw[G1.out,HG2.out],trivial⟩
     case measure=>simp[intOf];omega
    ·obtain⟨g1,g3⟩:=HR2.out (by omega);have hlt':¬(q:Int)<(x:Int):=by omega
     have hw:IntKind.u64.wrap ((q:Int)-(x:Int))=((q-x:Nat):Int):=by rw[IntKind.wrap_u64];omega
     have G1:=Lib.hid g1;clear g1 hlt;go_wp2_with fail;go_roundw
     case rel=>exact⟨x,q-x,by go_num,by go_num,⟨HO2.out,by omega,by omega⟩,by rw[G1.out,HG2.out],trivial⟩
     case measure=>simp[intOf];omega
 ·have hmn:min ka kb=ka:=by omega
  have hlt:¬(kb:Int)<(ka:Int):=by omega
  rw[hmn]at HG;have HGG:=Lib.hid HG;clear hmn HG h;go_enter Tryz.func305,Tryz.ntmps305;go_wp2_with fail;refine HA.out.mono ?_;rintro _ _ ⟨rfl,rfl⟩;go_wp2_with fail;refine HB1.out.mono ?_;rintro _ _ ⟨rfl,rfl⟩;go_wp2_with fail;refine HA.out.mono ?_;rintro _ _ ⟨rfl,rfl⟩;go_wp2_with fail;rw[HSA.out];generalize hx0:od a=x0 at *;have HX0:=Lib.hid hx0;clear hx0;go_loopw [0,1] (fun u v wr=>∃x y:Nat,u=.int .u64 x∧v=.int .u64 y∧(x%2=1∧x≤1000000000000∧y≤1000000000000)∧Nat.gcd x y=Nat.gcd x0 b∧w0=wr) (fun u v _=>(intOf u).toNat+(intOf v).toNat)
  case atStart=>exact⟨x0,b,rfl,rfl,⟨HOA.out,HXL.out,b64⟩,rfl,rfl⟩
  case round=>
   obtain⟨x,y,rfl,rfl,⟨ho,hx9,hy9⟩,hg,rfl⟩:=hrel;have HG2:=Lib.hid hg;have HO2:=Lib.hid ho;clear hg ho;by_cases hy:y=0
   ·subst hy
    have HE:=Lib.hid (show((x:Int)*2^ka)=((Nat.gcd a b:Nat):Int) by
     have h1:=HG2.out;rw[Nat.gcd_zero_right]at h1;rw[←HGG.out,←h1]
     simp)
    have HL:=Lib.hid (show Nat.gcd a b≤1000000000000 from Nat.le_trans (Nat.gcd_le_left b ha) a64);clear HG2
    obtain⟨G,hG⟩:∃G,Nat.gcd a b=G:=⟨_,rfl⟩
    rw[hG]at HE HL;have HGE:=Lib.hid hG;clear hG HGG;have hG9:=HL.out;have hwr:IntKind.u64.wrap ((x:Int)*2^ka)=(G:Int):=by rw[HE.out,IntKind.wrap_u64];omega
    have hwi:IntKind.i64.wrap (G:Int)=(G:Int):=by rw[IntKind.wrap_i64];omega
    go_wp2_with (simp only[hwr,hwi]);go_ret;rw[HGE.out];exact⟨rfl,rfl⟩
   ·have hy1:0<y:=by omega
    have hy':((y:Int) !=0)=true:=by simp;omega
    obtain⟨r1,r2⟩:=zqe HO2.out hy1 (by omega);have HR1:=Lib.hid r1;have HR2:=Lib.hid r2;have HS:=Lib.hid (show((y:Int))/2^(Lib.ctz 64 y)=((od y:Nat):Int) by unfold od;simp);have HTY:=Lib.hid (HB.out y hy1 hy9);have hol:od y≤1000000000000:=Nat.le_trans od_le hy9
    obtain⟨ky,hky⟩:∃k,Lib.ctz 64 y=k:=⟨_,rfl⟩
    have hky9:=(zgh hy1 (by omega)).1;rw[hky]at HS HTY hky9;generalize od y=q at *;clear r1 r2 hky hy;go_wp2_with fail;refine HTY.out.mono ?_;rintro _ _ ⟨rfl,rfl⟩;have hsh:=HS.out;by_cases hlt:q<x
    ·obtain⟨g1,g2,g3⟩:=HR1.out hlt;have hlt':(q:Int)<(x:Int):=by omega
     have hw:IntKind.u64.wrap ((x:Int)-(q:Int))=((x-q:Nat):Int):=by rw[IntKind.wrap_u64];omega
     have G1:=Lib.hid g1;clear g1 hlt;go_wp2_with fail;go_roundw
     case rel=>exact⟨q,x-q,by go_num,by go_num,⟨g2,by omega,by omega⟩,by rw[G1.out,HG2.out],trivial⟩
     case measure=>simp[intOf];omega
    ·obtain⟨g1,g3⟩:=HR2.out (by omega);have hlt':¬(q:Int)<(x:Int):=by omega
     have hw:IntKind.u64.wrap ((q:Int)-(x:Int))=((q-x:Nat):Int):=by rw[IntKind.wrap_u64];omega
     have G1:=Lib.hid g1;clear g1 hlt;go_wp2_with fail;go_roundw
     case rel=>exact⟨x,q-x,by go_num,by go_num,⟨HO2.out,by omega,by omega⟩,by rw[G1.out,HG2.out],trivial⟩
     case measure=>simp[intOf];omega
