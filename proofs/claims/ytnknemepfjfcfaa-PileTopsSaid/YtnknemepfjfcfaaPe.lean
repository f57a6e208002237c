/-
  The methods of pile.Pile[[2]int]: swap.
-/
import Derived.Test.YtnknemepfjfcfaaPd
import Derived.Test.YtnknemepfjfcfaaGo
namespace Go.Proofs.Ytnknemepfjfcfaa
open Go.RowKit Go.Gk

/-- The pile's blocks. -/
def pfoot (b : Nat) (rv : Value) (k : Nat) : Prop := k = b ∨ rv.ownBlock = some k
theorem PileIs.ne {w : World} {b : Nat} {rv : Value} {row : List T3} {next : Int} (h : PileIs w b rv row next) : rv.ownBlock ≠ some b := fun e => by
  rcases h.rows.2 with ⟨rfl, _⟩ | ⟨g, cap, cur, rfl, _, hg, _⟩
  · cases e
  · injection e with e
    subst e
    have := h.blk
    unfold Blk at this
    rw [this] at hg
    simp at hg

set_option maxRecDepth 100000 in
set_option maxHeartbeats 1600000 in
theorem swap_any {w : World} {b : Nat} {rv : Value} {row : List T3} {next : Int} {i k : Nat} (h : PileIs w b rv row next) (hi : i < row.length) (hk : k < row.length) :
    Calls Try.prog 39 #[.pointer (some ⟨b, 0, none⟩), .int .i64 i, .int .i64 k] w fun e w' => e = .returned (.tuple #[]) ∧ PileIs w' b rv (swap3 row i k) next ∧ Tch (pfoot b rv) w w' := by
  have hne := h.ne
  have hb := h.blk
  obtain ⟨A, c, rfl, hnc, hcm, _⟩ := own_form h.rows
  obtain ⟨g, rfl⟩ := own_head h.rows (by omega)
  have hown := h.rows
  have fi := flat3_at row i hi
  have fk := flat3_at row k hk
  obtain ⟨x, hx⟩ : ∃ x, x = g3 row i := ⟨_, rfl⟩
  obtain ⟨y, hy⟩ : ∃ y, y = g3 row k := ⟨_, rfl⟩
  rw [← hx] at fi
  rw [← hy] at fk
  have HX := Hid.out (p := Hid (x = _)) hx
  have HY := Hid.out (p := Hid (y = _)) hy
  clear hx hy
  have c0 := within_cell (F := fun _ => False) (hb.cell 0) id
  have c1 := within_cell (F := fun _ => False) (own_cell hown (g := g) rfl fi.1) id
  have c2 := within_cell (F := fun _ => False) (own_cell hown (g := g) rfl fi.2.1) id
  have c3 := within_cell (F := fun _ => False) (own_cell hown (g := g) rfl fi.2.2) id
  have c4 := within_cell (F := fun _ => False) (own_cell hown (g := g) rfl fk.1) id
  have c5 := within_cell (F := fun _ => False) (own_cell hown (g := g) rfl fk.2.1) id
  have c6 := within_cell (F := fun _ => False) (own_cell hown (g := g) rfl fk.2.2) id
  have i0 : (0 : Int) ≤ (i : Int) := Int.natCast_nonneg _
  have i1 : (i : Int) < (row.length : Int) := by omega
  have k0 : (0 : Int) ≤ (k : Int) := Int.natCast_nonneg _
  have k1 : (k : Int) < (row.length : Int) := by omega
  go_enter Try.func39, Try.ntmps39
  go_wp2_with fail
  refine wp_region_touch (fun _ => False) [9] 24 [] [] (by kernel_rfl) rfl (by kernel_rfl) rfl (fun d _ _ _ _ h => by cases d <;> exact h) trivial ?_
  intro bef ops hbef hops
  clear hbef hops
  simp only [List.take_succ_cons, List.take_zero, List.drop_succ_cons, List.drop_zero]
  iterate 24 (refine t_det (by rfl) (by rfl) (by rfl) (by rfl) (fun K hK => ?_); go_big_quiet_op; (first | refine hK _ ?_ | refine ⟨_, fun _ => rfl, hK _ ?_⟩); clear hK K)
  refine t_nil ?_
  intro w2 hrr hpp hap
  clear hap hpp c0 c1 c2 c3 c4 c5 c6 fi fk
  have tw2 : Tch (fun _ => False) w w2 := (Tch.drew _ w).trans hrr
  have h2 := h.keep tw2 id (fun _ _ => id)
  have o2 := h2.rows
  have b2 := h2.blk
  clear h h2 hb hown hrr
  have ln := flat3_len row
  have t1 := own_there o2 (i * 3) 3 (by omega)
  have o3 := own_things o2 i y
  have t2 := own_there o3 (k * 3) 3 (by rw [flat3_len, List.length_set]; omega)
  have o4 := own_things o3 k x
  have b3 := (b2.keep (F := fun j => j = g) (Tch.setCells (F := fun j => j = g) rfl (flat3 y) (i * 3) w2) (fun e => hne (e ▸ rfl))).keep (F := fun j => j = g) (Tch.setCells (F := fun j => j = g) rfl (flat3 x) (k * 3) _) (fun e => hne (e ▸ rfl))
  have t4 : Tch (pfoot b (.slice (some ⟨g, 0, none⟩) row.length c)) w2 _ := (Tch.setCells (F := pfoot b (.slice (some ⟨g, 0, none⟩) row.length c)) (.inr rfl) (flat3 y) (i * 3) w2).trans (Tch.setCells (.inr rfl) (flat3 x) (k * 3) _)
  have hsw : (row.set i y).set k x = swap3 row i k := by rw [HX.out, HY.out]; rfl
  rw [hsw] at o4
  clear hsw HX HY
  have hinf : (Try.prog.info? 74).map (·.size) = some 3 := by kernel_rfl
  have HI := Hid.out (p := Hid _) hinf
  clear hinf ln
  refine wpList_plain rfl fun K hK => ?_
  go_simp
  refine hK _ _ ?_
  clear hK K
  refine wpList_store_mid rfl 74 _ _ rfl g (i * 3) #[.int .i64 y.1, .int .i64 y.2.1, .int .i64 y.2.2] rfl rfl t1 HI.out (all_oneCell_toArray (flat3_one1 y)) ?_
  refine wpList_plain rfl fun K hK => ?_
  go_simp
  refine hK _ _ ?_
  clear hK K
  refine wpList_store_mid rfl 74 _ _ rfl g (k * 3) #[.int .i64 x.1, .int .i64 x.2.1, .int .i64 x.2.2] rfl rfl t2 HI.out (all_oneCell_toArray (flat3_one1 x)) ?_
  have q2 : Tch (pfoot b (.slice (some ⟨g, 0, none⟩) row.length c)) w ((w2.setCells g (i * 3) (flat3 y)).setCells g (k * 3) (flat3 x)) := (Exn.touch tw2).trans t4
  have hfin : PileIs ((w2.setCells g (i * 3) (flat3 y)).setCells g (k * 3) (flat3 x)) b (.slice (some ⟨g, 0, none⟩) row.length c) (swap3 row i k) next := ⟨b3, by have := o4; rwa [swap3_len] at this ⊢⟩
  change wpList _ _ _ [] _ ((w2.setCells g (i * 3) (flat3 y)).setCells g (k * 3) (flat3 x))
  clear o2 o3 o4 b2 b3 t1 t2 t4 tw2
  generalize (w2.setCells g (i * 3) (flat3 y)).setCells g (k * 3) (flat3 x) = W at *
  go_wp2
  go_end0
  exact ⟨rfl, hfin, q2⟩

end Go.Proofs.Ytnknemepfjfcfaa
