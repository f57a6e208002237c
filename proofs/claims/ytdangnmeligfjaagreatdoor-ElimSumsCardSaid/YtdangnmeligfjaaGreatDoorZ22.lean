/-
  The probe of layer 31: its books, its answers.
-/
import Derived.Test.YtdangnmeligfjaaGreatDoorZ14
import Derived.Test.YtdangnmeligfjaaGreatDoorZ20
import Derived.Test.YtdangnmeligfjaaGreatDoorZ21
namespace Go.Gk
open Go.RowKit
theorem own_all (w : World) (e : TypeId) (size n : Nat) (cells : Array Value) (hn : n ≤ maxLen) (hs : cells.size = n * size) : (w.alloc (.cells cells e)).ownsRow w.heap.size e size (.slice (some ⟨w.heap.size, 0, none⟩) n n) n cells.toList :=
 ⟨by simpa using hs, .inr ⟨w.heap.size, n, cells, rfl, Nat.le_refl _, Blk.new w e cells, Nat.le_refl _, hn, hs, List.take_of_length_le (by simp [hs])⟩⟩
end Go.Gk
namespace Go.Proofs.YtdangnmeligfjaaGreatDoor
open Go.RowKit Go.Gk
set_option maxRecDepth 100000 in
set_option maxHeartbeats 800000 in
theorem new20_any (w : World) :
 Calls Tryz.prog 103 #[] w fun x w' => ∃ u, x = .returned u ∧ Outs acc4 4 89 w w' u ownAccs := by
 go_enter Tryz.func103, Tryz.ntmps103
 go_wp2
 go_ret
 exact ⟨_, rfl, own_all w 89 4 3 _ (by decide) rfl, Tch.alloc _ _ _⟩
set_option maxRecDepth 100000 in
set_option maxHeartbeats 800000 in
theorem new26_any (w : World) :
 Calls Tryz.prog 54 #[] w fun x w' => ∃ u, x = .returned (.agg #[.slice none 0 0, u, .slice none 0 0, .slice none 0 0, .slice none 0 0, .slice none 0 0]) ∧ Outs acc4 4 89 w w' u ownAccs := by
 have tz := Tch.alloc (fun _ => False) w (.cells #[.slice none 0 0, .slice none 0 0, .slice none 0 0, .slice none 0 0, .slice none 0 0, .slice none 0 0] 29)
 have hz := Blk.new w 29 #[.slice none 0 0, .slice none 0 0, .slice none 0 0, .slice none 0 0, .slice none 0 0, .slice none 0 0]
 have hsz : (w.alloc (.cells #[.slice none 0 0, .slice none 0 0, .slice none 0 0, .slice none 0 0, .slice none 0 0, .slice none 0 0] 29)).heap.size = w.heap.size + 1 := by simp
 go_enter Tryz.func54, Tryz.ntmps54
 go_wp2_with fail
 generalize w.alloc _ = W at *
 generalize hzw : w.heap.size = z at *
 have HZW := Lib.hid hzw
 clear hzw
 refine (new20_any W).mono ?_
 rintro _ w1 ⟨u, rfl, hO⟩
 have h1 := hz.keep hO.tch id
 obtain ⟨A, c, he, _, _⟩ := hO.form
 rw [show ownAccs.length = 3 from rfl] at he
 subst he
 go_wp2_with (refine wpList_store_blk rfl _ _ _ rfl (z) #[.slice none 0 0, .slice A 3 c, .slice none 0 0, .slice none 0 0, .slice none 0 0, .slice none 0 0] (by rfl) (by rfl) h1 (by kernel_rfl) rfl (by simp [Value.oneCell']) ?_; refine Hid.out ?_)
 refine Lib.hid ?_
 intro w9 hF tF
 have HBF := Lib.hid hF
 have HTF := Lib.hid tF
 clear hF tF h1
 go_wp2
 refine bodyPost_ret (results_cell_row (P := Tryz.prog) rfl _ _ (z) 29 _ (0, 0) _ rfl HBF.out Tryz.underlying29 rfl (by kernel_rfl)) rfl ?_
 refine ⟨_, rfl, own_up (own_base ((HTF.out).own hO.own (fun g hg he => ?_))) (fun g hg => ?_), (tz.trans hO.tch).trans' HTF.out (fun i hi => .inr (by have hi : i = z := hi; have := HZW.out; omega))⟩
 ·have he : g = z := he
  have := (hO.own.lt g hg).1
  omega
 ·have := (hO.own.lt g hg).1
  have := HZW.out
  omega
end Go.Proofs.YtdangnmeligfjaaGreatDoor
