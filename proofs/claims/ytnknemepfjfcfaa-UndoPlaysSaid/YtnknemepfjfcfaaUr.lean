/-
  The document's answer for layer 16: its functions.
-/
import Derived.Test.YtnknemepfjfcfaaUa
import Derived.Test.YtnknemepfjfcfaaGm
import Derived.Deep.RegionHeld3
import Derived.Laws.ResultCell
import Derived.Laws.Rows
namespace Go.Proofs.Ytnknemepfjfcfaa
open Go.RowKit Go.Maps Go.Gk

theorem rowPrs : RowTy Try.prog 28 25 (.agg #[.int .i64 0, .int .i64 0]) 2 16 := ⟨Try.underlying28, by kernel_rfl, rfl, by decide⟩
theorem rowStk : RowTy Try.prog 50 28 (.slice none 0 0) 1 24 := ⟨Try.underlying50, by kernel_rfl, rfl, by decide⟩

set_option maxRecDepth 100000 in
set_option maxHeartbeats 400000 in
theorem rget_any {P : Nat → Prop} {w : World} {v tv : Value} {l : KV} {k : Int} (h : Pairs P w v l) :
    Calls Try.prog 25 #[.agg #[v, tv], .int .i64 k] w fun e w' => e = .returned (.tuple #[.int .i64 ((kget l k).getD 0), .bool (kget l k).isSome]) ∧ Tch (fun _ => False) w w' := by
  obtain ⟨A, c, rfl⟩ := h.1.form
  have hc := h.1.cap
  have htw := Tch.alloc (fun _ => False) w (.cells #[.slice A l.length c, tv] 52)
  have h1 := h.keep htw
  have hb := Blk.new w 52 #[.slice A l.length c, tv]
  obtain ⟨W, hW⟩ : ∃ W, W = w.alloc (.cells #[.slice A l.length c, tv] 52) := ⟨_, rfl⟩
  obtain ⟨r, hr⟩ : ∃ r, r = kget l k := ⟨_, rfl⟩
  rw [← hr]
  have HR := Lib.hid hr
  clear hr
  go_enter Try.func25, Try.ntmps25
  go_wp2_with fail
  rw [← hW] at htw h1 hb ⊢
  obtain ⟨z, hz⟩ : ∃ z, z = w.heap.size := ⟨_, rfl⟩
  rw [← hz] at hb ⊢
  have f0 := hb.cell 0
  clear hW hz hb
  go_loop [6] (fun i => ∃ j : Nat, j ≤ l.length ∧ i = .int .i64 j ∧ ∀ (m : Nat) (hm : m < l.length), m < j → l[m].1 ≠ k) (fun i => l.length - (intOf i).toNat)
  case atStart => exact ⟨0, Nat.zero_le _, rfl, fun m hm h0 => absurd h0 (by omega)⟩
  case round =>
    obtain ⟨j, hj, rfl, hne⟩ := hrel
    by_cases hlt : j < l.length
    · obtain ⟨g, rfl⟩ := h1.1.head (by omega)
      have hfl := flatP_at l j hlt
      have q0 := h1.1.at hfl.1
      have q1 := h1.1.at hfl.2
      clear hfl
      by_cases hk : l[j].1 = k
      · obtain ⟨v, hv⟩ : ∃ v, v = l[j].2 := ⟨_, rfl⟩
        have hg : r = some v := by rw [hv]; exact HR.out.trans (kget_some_of hlt (fun m hm => hne m (by omega) hm) hk)
        subst hg
        rw [hk] at q0
        rw [← hv] at q1
        clear HR hk hne hv
        go_wp2
        go_ret2
        exact ⟨rfl, htw⟩
      · have hne' : ∀ (m : Nat) (hm : m < l.length), m < j + 1 → l[m].1 ≠ k := fun m hm hmj => by
          by_cases hmj' : m < j
          · exact hne m hm hmj'
          · obtain rfl : m = j := by omega
            exact hk
        have hkb : (l[j].1 == k) = false := by simpa using hk
        generalize l[j].1 = kk at *
        clear hne
        go_wp2
        go_round
        case rel => exact ⟨j + 1, by omega, by go_num, hne'⟩
        case measure => simp [intOf]; omega
    · have hg : r = none := HR.out.trans (kget_none_of fun m hm => hne m hm (by omega))
      subst hg
      clear hne HR
      go_wp2
      go_ret2
      exact ⟨rfl, htw⟩

set_option maxRecDepth 100000 in
set_option maxHeartbeats 400000 in
theorem rwithout_any {P : Nat → Prop} {w : World} {v : Value} {l : KV} {k : Int} (h : Pairs P w v l) (hn : l.length ≤ 1000000) :
    Calls Try.prog 60 #[v, .int .i64 k] w fun e w' => ∃ v', e = .returned v' ∧ w'.ownsRow w.heap.size 25 2 v' (kdel l k).length ((kdel l k).flatMap flatP) ∧ Tch (fun _ => False) w w' := by
  obtain ⟨A, c, rfl⟩ := h.1.form
  have hc := h.1.cap
  go_enter Try.func60, Try.ntmps60
  go_wp2_with fail
  go_loopw [5, 6] (fun o i wr => ∃ j : Nat, j ≤ l.length ∧ i = .int .i64 j ∧ wr.ownsRow w.heap.size 25 2 o (kdel (l.take j) k).length ((kdel (l.take j) k).flatMap flatP) ∧ Tch (fun _ => False) w wr) (fun _ i _ => l.length - (intOf i).toNat)
  case atStart => exact ⟨0, Nat.zero_le _, rfl, World.ownsRow_nil _ _ _ _, Tch.refl _ _⟩
  case round =>
    obtain ⟨j, hj, rfl, hown, ht⟩ := hrel
    have hkl : (kdel (l.take j) k).length ≤ 1000000 := by
      have := kdel_len (l.take j) k
      rw [List.length_take] at this
      omega
    obtain ⟨O, co, rfl, _, _, _⟩ := own_form hown
    by_cases hlt : j < l.length
    · have h1 := h.keep ht
      obtain ⟨g, rfl⟩ := h1.1.head (by omega)
      have hfl := flatP_at l j hlt
      have q0 := h1.1.at hfl.1
      have q1 := h1.1.at hfl.2
      have hst := kdel_take (k := k) hlt
      clear hfl
      obtain ⟨a, ha⟩ : ∃ a, a = l[j].1 := ⟨_, rfl⟩
      obtain ⟨b, hb⟩ : ∃ b, b = l[j].2 := ⟨_, rfl⟩
      rw [← ha] at q0
      rw [← hb] at q1
      by_cases hk : a = k
      · have hst' : kdel (l.take (j + 1)) k = kdel (l.take j) k := by rw [hst, if_pos (by rw [← ha]; exact hk), List.append_nil]
        subst hk
        have HST := Lib.hid hst'
        clear hst hst' ha hb q1
        go_wp2
        go_roundw
        case rel => exact ⟨j + 1, by omega, by go_num, by rw [HST.out]; exact hown, ht⟩
        case measure => simp [intOf]; omega
      · have hst' : kdel (l.take (j + 1)) k = kdel (l.take j) k ++ [(a, b)] := by rw [hst, if_neg (by rw [← ha]; exact hk), ha, hb]
        have hkb : (a == k) = false := by simpa using hk
        have HST := Lib.hid hst'
        clear hst hst' ha hb
        generalize kdel (l.take j) k = d at hown hkl HST
        go_wp2_with (at_builtin; refine wpList_append _ rfl _ _ 28 rfl rowPrs (own_base (hown.alloc _)) (by rfl) (Src.one (news := flatP (a, b)) rfl (fun m u hu => by rw [(Blk.new wr 25 #[.int .i64 a, .int .i64 b]).cell m]; simpa [flatP] using hu)) (by rfl) (flatP_one1 _) (by unfold maxLen; omega) (by omega) ?_; intro nv' w1 ho hg hll; obtain ⟨A2, c2, rfl, _, _, _⟩ := own_form ho)
        have hnew : ∀ g, (Value.slice O d.length co).ownBlock = some g → w.heap.size ≤ g := fun g hg => (hown.lt g hg).1
        have hb1 : ∀ g, (Value.slice A2 (d.length + 1) c2).ownBlock = some g → w.heap.size ≤ g := fun g hg => by
          rcases hll g hg with h1 | h1
          · exact hnew g h1
          · have := ht.size; simp at h1; omega
        have ht1 : Tch (fun _ => False) w w1 := (ht.trans (Tch.alloc _ _ _)).trans' (Tch.grown (F := fun k => w.heap.size ≤ k) hg (fun k hk => .inl (hnew k hk))) (fun k hk => .inr hk)
        go_roundw
        case rel => exact ⟨j + 1, by omega, by go_num, by rw [HST.out]; have := own_rebase ho hb1; simpa using this, ht1⟩
        case measure => simp [intOf]; omega
    · obtain rfl : l.length = j := by omega
      clear hkl hlt
      go_wp2
      go_ret
      exact ⟨.slice O (kdel (l.take l.length) k).length co, rfl, by rw [List.take_length] at hown ⊢; exact hown, ht⟩

theorem results_cell_row_tmp {P : Program} {fn : Func} {p u : Tmp} {ty : TypeId} (h : fn.results = #[.cell p ty, .tmp u]) (tmps : Array Value) (w : World) (g : Nat) (t : TypeId) (cs : Array Value) (fr : Nat × Nat) (d : TypeDesc)
    (hp : tmps.getD p undef = .pointer (some ⟨g, 0, none⟩)) (hg : w.heap[g]? = some (.cells cs t fr))
    (hu : P.underlying ty = some d) (hd : (match d with | .struct _ | .array _ _ => true | _ => false) = true) (hi : (P.info? ty).map (·.size) = some cs.size) :
    (results fn tmps).run P w = .ok (.tuple #[.agg cs, tmps.getD u undef]) w := by
  rw [results_cell_tmp h, hp]
  simp [asAddr, run_loadVar_row w g t ty cs fr d hg hu hd hi, Result.andThen]

theorem Tch.set2 (w : World) (z : Nat) (u v : Value) : Tch (fun g => g = z) w ((w.setCell ⟨z, 0, none⟩ u).setCell ⟨z, 1, none⟩ v) :=
  (Tch.setCell (F := fun g => g = z) w (p := ⟨z, 0, none⟩) (.inl rfl) u).trans (Tch.setCell (F := fun g => g = z) _ (p := ⟨z, 1, none⟩) (.inl rfl) v)

/-- The document's book: what all keys have; what they had. -/
def BookR (P : Nat → Prop) (w : World) (v : Value) (now : KV) (thens : List KV) : Prop := ∃ nv tv, v = .agg #[nv, tv] ∧ Pairs P w nv now ∧ Stack P w tv thens
theorem BookR.keep {P : Nat → Prop} {w w' : World} {v : Value} {now : KV} {thens : List KV} (h : BookR P w v now thens) (t : Tch (fun _ => False) w w') : BookR P w' v now thens :=
  let ⟨nv, tv, e, h1, h2⟩ := h; ⟨nv, tv, e, h1.keep t, h2.keep t⟩

set_option maxRecDepth 100000 in
set_option maxHeartbeats 3200000 in
theorem rset_any {P : Nat → Prop} {w : World} {v : Value} {now : KV} {thens : List KV} {k x : Int} (h : BookR P w v now thens) (hP : ∀ g, w.heap.size ≤ g → P g) (hk : wfi k) (hx : wfi x) (hn : now.length ≤ 1000000) :
    Calls Try.prog 45 #[v, .int .i64 k, .int .i64 x] w fun e w' => ∃ v', e = .returned v' ∧ BookR P w' v' (kput now k x) thens ∧ Tch (fun _ => False) w w' := by
  obtain ⟨nv, tv, rfl, hp, hs⟩ := h
  obtain ⟨An, cn, rfl⟩ := hp.1.form
  obtain ⟨At, ct, rfl⟩ : ∃ A c, tv = .slice A thens.length c := let ⟨us, h, _⟩ := hs; h.form
  have hW : ∃ W : World, W = (w.alloc (.cells #[.slice An now.length cn, .slice At thens.length ct] 52)).alloc (.cells #[.slice none 0 0, .slice none 0 0] 52) := ⟨_, rfl⟩
  obtain ⟨W, hW⟩ := hW
  have ht : Tch (fun _ => False) w W := by rw [hW]; exact (Tch.alloc _ _ _).trans (Tch.alloc _ _ _)
  have hb : Blk W w.heap.size 52 #[.slice An now.length cn, .slice At thens.length ct] := by rw [hW]; exact (Blk.new w _ _).alloc _
  have hr : Blk W (w.heap.size + 1) 52 #[.slice none 0 0, .slice none 0 0] := by rw [hW]; simpa using Blk.new (w.alloc (.cells #[.slice An now.length cn, .slice At thens.length ct] 52)) 52 #[.slice none 0 0, .slice none 0 0]
  have hbn : ∀ (W : World) (N : Nat), N = W.heap.size → ∀ j u, (flatP (k, x))[j]? = some u → (W.alloc (.cells #[.int .i64 k, .int .i64 x] 25)).cell? ⟨N, j, none⟩ = some u := fun W N e j u hu => by
    rw [e, (Blk.new W 25 #[.int .i64 k, .int .i64 x]).cell j]; simpa [flatP] using hu
  go_enter Try.func45, Try.ntmps45
  go_wp2_with fail
  rw [← hW]
  obtain ⟨z, hz⟩ : ∃ z, z = w.heap.size := ⟨_, rfl⟩
  rw [← hz] at hb hr ⊢
  have hzW : z + 1 < W.heap.size := hr.lt
  have hzw : w.heap.size ≤ z + 1 := by omega
  have f0 : W.cell? ⟨z, 0, none⟩ = some (.slice An now.length cn) := hb.cell 0
  have f1 : W.cell? ⟨z, 1, none⟩ = some (.slice At thens.length ct) := hb.cell 1
  clear hW hz
  go_region_held3 (fun w' => w'.cell? ⟨z, 0, none⟩ = some (.slice An now.length cn) ∧ w'.cell? ⟨z, 1, none⟩ = some (.slice At thens.length ct))
    (first
      | go_keep
      | (go_split_ands; exact ⟨hg2.cell (by assumption) (fun e => by have := (ho1.lt z e.symm).1; simp at this; omega), hg2.cell (by assumption) (fun e => by have := (ho1.lt z e.symm).1; simp at this; omega)⟩)
      | (exact ⟨ht1.cell_some (by go_keep) id, ht1.cell_some (by go_keep) id⟩))
    (first
      | (go_at_call 60; refine (rwithout_any ((hp.keep ht).keep (by repeat (first | exact Tch.refl _ _ | refine Tch.trans ?_ (Tch.drew _ _) | refine Tch.trans ?_ (Tch.alloc _ _ _)))) hn).mono ?_; rintro e w1 ⟨v1, rfl, ho1, ht1⟩; have tw1 : Tch (fun _ => False) W w1 := Tch.trans (by repeat (first | exact Tch.refl _ _ | refine Tch.trans ?_ (Tch.drew _ _) | refine Tch.trans ?_ (Tch.alloc _ _ _))) ht1)
      | (refine step_append _ (by rfl) _ _ _ (by rfl) rowPrs (by first | exact own_base ho1 | exact own_base (ho1.alloc _)) (by rfl) (Src.one (news := flatP (k, x)) rfl (fun j u hu => by first | exact hbn _ _ (by first | rfl | simp) j u hu | exact ht1.cell_some (hbn _ _ (by first | rfl | simp) j u hu) id)) (by rfl) (flatP_one1 _) (by have := kdel_len now k; unfold maxLen; omega) (by have := kdel_len now k; omega) ?_; intro v2 w2 ho2 hg2 hl2; obtain ⟨A2, c2, rfl, _, _, _⟩ := own_form ho2; have tw2 : Tch (fun g => W.heap.size ≤ g) W w2 := (Exn.touch tw1).trans (by first | exact Tch.grown hg2 (fun g e => .inl (by have := (ho1.lt g e).1; simp at this; omega)) | exact Tch.trans (Tch.alloc _ _ _) (Tch.grown hg2 (fun g e => .inl (by have := (ho1.lt g e).1; simp at this; omega)))); have hr2 := hr.keep tw2 (by show ¬ W.heap.size ≤ z + 1; omega); have s0 := hr2.cell 0; have s1 := hr2.cell 1; have s2 := hr2.frozen 0; have s3 := hr2.frozen 1))
  all_goals
    go_wp2
    have hbF := (hr2.set_ 0 (.slice A2 ((kdel now k).length + 1) c2)).set_ 1 (.slice At thens.length ct)
    simp only [List.setIfInBounds_toArray, List.set_cons_succ, List.set_cons_zero] at hbF
    (try simp only [Exit.inBlock, Exit.then])
    refine bodyPost_ret (results_cell_row (P := Try.prog) rfl _ _ (z + 1) 52 _ (0, 0) _ rfl hbF Try.underlying52 rfl (by kernel_rfl)) rfl ?_
    have hnb : ∀ g, (Value.slice A2 ((kdel now k).length + 1) c2).ownBlock = some g → ¬ g = z + 1 := fun g e => by
      have h1 := tw1.size
      rcases hl2 g e with h2 | h2
      · have := (ho1.lt g h2).1; simp at this; omega
      · first | (simp at h2; omega) | omega
    have tw3 := Tch.set2 w2 (z + 1) (.slice A2 ((kdel now k).length + 1) c2) (.slice At thens.length ct)
    have ho3 := tw3.own ho2 hnb
    have tw4 : Tch (fun g => w.heap.size ≤ g) w _ := (Exn.touch ht).trans ((tw2.mono fun g _ h => Nat.le_trans ht.size h).trans (tw3.mono fun g _ h => by omega))
    have tw5 := (Tch.refl (fun _ => False) w).trans' tw4 (fun i h => .inr h)
    refine ⟨_, rfl, ⟨_, _, rfl, ⟨?_, fun p hp' => ?_⟩, hs.keep tw5⟩, tw5⟩
    · have := RoRow.own (P := P) ho3 (fun g e => hP g (by have h1 := tw1.size; have h0 := ht.size; rcases hl2 g e with h2 | h2; (have := (ho1.lt g h2).1; simp at this; omega); (first | (simp at h2; omega) | omega)))
      simpa [kput, flatP] using this
    · rcases mem_kput hp' with h | rfl
      · exact hp.2 p h
      · exact ⟨hk, hx⟩

set_option maxRecDepth 100000 in
set_option maxHeartbeats 3200000 in
theorem rdrop_any {P : Nat → Prop} {w : World} {v : Value} {now : KV} {thens : List KV} {k : Int} (h : BookR P w v now thens) (hP : ∀ g, w.heap.size ≤ g → P g) (hn : now.length ≤ 1000000) :
    Calls Try.prog 46 #[v, .int .i64 k] w fun e w' => ∃ v', e = .returned (.tuple #[v', .int .i64 (if (kget now k).isSome then 0 else 35)]) ∧ BookR P w' v' (if (kget now k).isSome then kdel now k else now) thens ∧ Tch (fun _ => False) w w' := by
  obtain ⟨nv, tv, rfl, hp, hs⟩ := h
  obtain ⟨An, cn, rfl⟩ := hp.1.form
  obtain ⟨At, ct, rfl⟩ : ∃ A c, tv = .slice A thens.length c := let ⟨us, h, _⟩ := hs; h.form
  have hW : ∃ W : World, W = (w.alloc (.cells #[.slice An now.length cn, .slice At thens.length ct] 52)).alloc (.cells #[.slice none 0 0, .slice none 0 0] 52) := ⟨_, rfl⟩
  obtain ⟨W, hW⟩ := hW
  have ht : Tch (fun _ => False) w W := by rw [hW]; exact (Tch.alloc _ _ _).trans (Tch.alloc _ _ _)
  have hb : Blk W w.heap.size 52 #[.slice An now.length cn, .slice At thens.length ct] := by rw [hW]; exact (Blk.new w _ _).alloc _
  have hr : Blk W (w.heap.size + 1) 52 #[.slice none 0 0, .slice none 0 0] := by rw [hW]; simpa using Blk.new (w.alloc (.cells #[.slice An now.length cn, .slice At thens.length ct] 52)) 52 #[.slice none 0 0, .slice none 0 0]
  have HG := rget_any (tv := .slice At thens.length ct) (k := k) (hp.keep ht)
  generalize (kget now k).getD 0 = gv at HG
  generalize (kget now k).isSome = gs at HG ⊢
  go_enter Try.func46, Try.ntmps46
  go_wp2_with fail
  rw [← hW]
  obtain ⟨z, hz⟩ : ∃ z, z = w.heap.size := ⟨_, rfl⟩
  rw [← hz] at hb hr ⊢
  have hzW : z + 1 < W.heap.size := hr.lt
  have hzw : w.heap.size ≤ z + 1 := by omega
  have f0 : W.cell? ⟨z, 0, none⟩ = some (.slice An now.length cn) := hb.cell 0
  have f1 : W.cell? ⟨z, 1, none⟩ = some (.slice At thens.length ct) := hb.cell 1
  clear hW hz
  refine HG.mono ?_
  rintro e w1 ⟨rfl, ht1⟩
  have hb1 := hb.keep ht1 id
  have hr1 := hr.keep ht1 id
  have g0 : w1.cell? ⟨z, 0, none⟩ = some (.slice An now.length cn) := hb1.cell 0
  have g1 : w1.cell? ⟨z, 1, none⟩ = some (.slice At thens.length ct) := hb1.cell 1
  have hz1 := hr1.lt
  have htw := ht.trans ht1
  clear f0 f1 HG hb hr ht ht1 hb1 hzW W
  cases gs
  · have s0 := hr1.cell 0
    have s1 := hr1.cell 1
    have s2 := hr1.frozen 0
    have s3 := hr1.frozen 1
    go_wp2
    have hbF := (hr1.set_ 0 (.slice An now.length cn)).set_ 1 (.slice At thens.length ct)
    simp only [List.setIfInBounds_toArray, List.set_cons_succ, List.set_cons_zero] at hbF
    (try simp only [Exit.inBlock, Exit.then])
    refine bodyPost_ret (results_cell_row_tmp (P := Try.prog) rfl _ _ (z + 1) 52 _ (0, 0) _ rfl hbF Try.underlying52 rfl (by kernel_rfl)) rfl ?_
    have tw5 := htw.trans' (Tch.set2 w1 (z + 1) (.slice An now.length cn) (.slice At thens.length ct)) (fun i h => .inr (by omega))
    exact ⟨_, rfl, ⟨_, _, rfl, hp.keep tw5, hs.keep tw5⟩, tw5⟩
  · go_wp2_with fail
    go_region_held3 (fun w' => w'.cell? ⟨z, 0, none⟩ = some (.slice An now.length cn) ∧ w'.cell? ⟨z, 1, none⟩ = some (.slice At thens.length ct))
      (first
        | go_keep
        | (exact ⟨ht2.cell_some (by go_keep) id, ht2.cell_some (by go_keep) id⟩))
      (first
        | (go_at_call 60; refine (rwithout_any ((hp.keep htw).keep (by repeat (first | exact Tch.refl _ _ | refine Tch.trans ?_ (Tch.drew _ _) | refine Tch.trans ?_ (Tch.alloc _ _ _)))) hn).mono ?_; rintro e w2 ⟨v2, rfl, ho2, ht2⟩; obtain ⟨A2, c2, rfl, _, _, _⟩ := own_form ho2; have tw2 : Tch (fun _ => False) w1 w2 := Tch.trans (by repeat (first | exact Tch.refl _ _ | refine Tch.trans ?_ (Tch.drew _ _) | refine Tch.trans ?_ (Tch.alloc _ _ _))) ht2; have hr2 := hr1.keep tw2 id; have s0 := hr2.cell 0; have s1 := hr2.cell 1; have s2 := hr2.frozen 0; have s3 := hr2.frozen 1))
    go_wp2
    have hbF := (hr2.set_ 0 (.slice A2 (kdel now k).length c2)).set_ 1 (.slice At thens.length ct)
    simp only [List.setIfInBounds_toArray, List.set_cons_succ, List.set_cons_zero] at hbF
    (try simp only [Exit.inBlock, Exit.then])
    refine bodyPost_ret (results_cell_row_tmp (P := Try.prog) rfl _ _ (z + 1) 52 _ (0, 0) _ rfl hbF Try.underlying52 rfl (by kernel_rfl)) rfl ?_
    have hnb : ∀ g, (Value.slice A2 (kdel now k).length c2).ownBlock = some g → ¬ g = z + 1 := fun g e => by
      have := (ho2.lt g e).1
      simp at this; omega
    have ho3 := (Tch.set2 w2 (z + 1) (.slice A2 (kdel now k).length c2) (.slice At thens.length ct)).own ho2 hnb
    have tw5 := (htw.trans tw2).trans' (Tch.set2 w2 (z + 1) (.slice A2 (kdel now k).length c2) (.slice At thens.length ct)) (fun i h => .inr (by omega))
    exact ⟨_, rfl, ⟨_, _, rfl, ⟨RoRow.own ho3 (fun g e => hP g (by have := (ho2.lt g e).1; have h0 := htw.size; simp at this; omega)), fun p hp' => hp.2 p (mem_del.1 hp').1⟩, hs.keep tw5⟩, tw5⟩

set_option maxRecDepth 100000 in
set_option maxHeartbeats 3200000 in
theorem rbegin_any {P : Nat → Prop} {w : World} {v : Value} {now : KV} {thens : List KV} (h : BookR P w v now thens) (hP : ∀ g, w.heap.size ≤ g → P g) :
    Calls Try.prog 47 #[v] w fun e w' => ∃ v', e = .returned (.tuple #[v', .int .i64 (if 64 ≤ thens.length then 3 else 0)]) ∧ BookR P w' v' now (if 64 ≤ thens.length then thens else thens ++ [now]) ∧ Tch (fun _ => False) w w' := by
  obtain ⟨nv, tv, rfl, hp, us, hsr, hsu⟩ := h
  obtain ⟨An, cn, rfl⟩ := hp.1.form
  obtain ⟨At, ct, rfl⟩ := hsr.form
  have hcap := hsr.cap
  have hW : ∃ W : World, W = (w.alloc (.cells #[.slice An now.length cn, .slice At thens.length ct] 52)).alloc (.cells #[.slice none 0 0, .slice none 0 0] 52) := ⟨_, rfl⟩
  obtain ⟨W, hW⟩ := hW
  have ht : Tch (fun _ => False) w W := by rw [hW]; exact (Tch.alloc _ _ _).trans (Tch.alloc _ _ _)
  have hb : Blk W w.heap.size 52 #[.slice An now.length cn, .slice At thens.length ct] := by rw [hW]; exact (Blk.new w _ _).alloc _
  have hr : Blk W (w.heap.size + 1) 52 #[.slice none 0 0, .slice none 0 0] := by rw [hW]; simpa using Blk.new (w.alloc (.cells #[.slice An now.length cn, .slice At thens.length ct] 52)) 52 #[.slice none 0 0, .slice none 0 0]
  have hus : ∀ u ∈ us, u.oneCell' = true := fun u hu => by
    obtain ⟨i, hi, rfl⟩ := List.getElem_of_mem hu
    have hl : us.length = thens.length * 1 := by obtain ⟨_, _, _, _, _, h, _⟩ := hsr; exact h
    obtain ⟨A, c, e⟩ := (hsu i _ _ (List.getElem?_eq_getElem hi) (List.getElem?_eq_getElem (by omega))).1.form
    rw [e]; rfl
  by_cases h64 : 64 ≤ thens.length
  · rw [if_pos h64, if_pos h64]
    have hb64 : (64 : Int) ≤ thens.length := by omega
    go_enter Try.func47, Try.ntmps47
    go_wp2
    have hbF : Blk ((w.alloc (.cells #[.slice An now.length cn, .slice At thens.length ct] 52)).alloc (.cells #[.slice An now.length cn, .slice At thens.length ct] 52)) (w.heap.size + 1) 52 #[.slice An now.length cn, .slice At thens.length ct] := by simpa using Blk.new (w.alloc (.cells #[.slice An now.length cn, .slice At thens.length ct] 52)) 52 #[.slice An now.length cn, .slice At thens.length ct]
    (try simp only [Exit.inBlock, Exit.then])
    refine bodyPost_ret (results_cell_row_tmp (P := Try.prog) rfl _ _ (w.heap.size + 1) 52 _ (0, 0) _ rfl hbF Try.underlying52 rfl (by kernel_rfl)) rfl ?_
    have tw5 : Tch (fun _ => False) w ((w.alloc (.cells #[.slice An now.length cn, .slice At thens.length ct] 52)).alloc (.cells #[.slice An now.length cn, .slice At thens.length ct] 52)) := (Tch.alloc _ _ _).trans (Tch.alloc _ _ _)
    exact ⟨_, rfl, ⟨_, _, rfl, hp.keep tw5, Stack.keep ⟨us, hsr, hsu⟩ tw5⟩, tw5⟩
  · rw [if_neg h64, if_neg h64]
    have hb64 : (thens.length : Int) < 64 := by omega
    have hmk : ∀ (W : World) (N : Nat), N = W.heap.size → (W.alloc (.cells #[] 28)).ownsRow 0 28 1 (.slice (some ⟨N, 0, none⟩) 0 0) 0 [] := fun W N e => by
      rw [e]; exact World.ownsRow_made W #[] 0 (Nat.zero_le _) (Nat.zero_le _) rfl
    have hbn : ∀ (W : World) (N : Nat), N = W.heap.size → ∀ j u, [Value.slice An now.length cn][j]? = some u → (W.alloc (.cells #[.slice An now.length cn] 28)).cell? ⟨N, j, none⟩ = some u := fun W N e j u hu => by
      rw [e, (Blk.new W 28 #[.slice An now.length cn]).cell j]; simpa using hu
    go_enter Try.func47, Try.ntmps47
    go_wp2_with fail
    rw [← hW]
    obtain ⟨z, hz⟩ : ∃ z, z = w.heap.size := ⟨_, rfl⟩
    rw [← hz] at hb hr ⊢
    have hzW : z + 1 < W.heap.size := hr.lt
    have hzw : w.heap.size ≤ z + 1 := by omega
    have f0 : W.cell? ⟨z, 0, none⟩ = some (.slice An now.length cn) := hb.cell 0
    have f1 : W.cell? ⟨z, 1, none⟩ = some (.slice At thens.length ct) := hb.cell 1
    clear hW hz
    go_region_held3 (fun w' => w'.cell? ⟨z, 0, none⟩ = some (.slice An now.length cn) ∧ w'.cell? ⟨z, 1, none⟩ = some (.slice At thens.length ct))
      (first
        | go_keep
        | (go_split_ands; exact ⟨hg2.cell (by assumption) (fun e => by have := nb1 z e.symm; omega), hg2.cell (by assumption) (fun e => by have := nb1 z e.symm; omega)⟩)
        | (go_split_ands; exact ⟨hg1.cell (by assumption) (fun e => by simp [Value.ownBlock] at e; omega), hg1.cell (by assumption) (fun e => by simp [Value.ownBlock] at e; omega)⟩))
      (first
        | (refine step_append (ao := some ⟨w1.heap.size, 0, none⟩) _ (by rfl) _ _ _ (by rfl) rowStk (by first | exact ho1 | exact ho1.alloc _) (by rfl) (Src.one (news := [.slice An now.length cn]) rfl (fun j u hu => by first | exact hbn _ _ (by first | rfl | simp) j u hu | exact hg1.cell (hbn _ _ (by first | rfl | simp) j u hu) (by simp [Value.ownBlock]) | exact hg1.cell ((Tch.alloc (fun _ => False) _ _).cell_some (hbn _ _ (by first | rfl | simp) j u hu) id) (by simp [Value.ownBlock]))) (by rfl) (by simp [Value.oneCell']) (by unfold maxLen; omega) (by omega) ?_; intro v2 w2 ho2 hg2 hl2; obtain ⟨A2, c2, rfl, _, _, _⟩ := own_form ho2; have tw2 : Tch (fun g => W.heap.size ≤ g) W w2 := tw1.trans (by first | exact Tch.grown hg2 (fun g e => .inl (nb1 g e)) | exact Tch.trans (Tch.alloc _ _ _) (Tch.grown hg2 (fun g e => .inl (nb1 g e)))); have hr2 := hr.keep tw2 (by show ¬ W.heap.size ≤ z + 1; omega); have s0 := hr2.cell 0; have s1 := hr2.cell 1; have s2 := hr2.frozen 0; have s3 := hr2.frozen 1)
        | (refine step_append (ao := some ⟨W.heap.size, 0, none⟩) _ (by rfl) _ _ _ (by rfl) rowStk (by first | exact ho1 | exact ho1.alloc _) (by rfl) (Src.one (news := [.slice An now.length cn]) rfl (fun j u hu => by first | exact hbn _ _ (by first | rfl | simp) j u hu | exact hg1.cell (hbn _ _ (by first | rfl | simp) j u hu) (by simp [Value.ownBlock]) | exact hg1.cell ((Tch.alloc (fun _ => False) _ _).cell_some (hbn _ _ (by first | rfl | simp) j u hu) id) (by simp [Value.ownBlock]))) (by rfl) (by simp [Value.oneCell']) (by unfold maxLen; omega) (by omega) ?_; intro v2 w2 ho2 hg2 hl2; obtain ⟨A2, c2, rfl, _, _, _⟩ := own_form ho2; have tw2 : Tch (fun g => W.heap.size ≤ g) W w2 := tw1.trans (by first | exact Tch.grown hg2 (fun g e => .inl (nb1 g e)) | exact Tch.trans (Tch.alloc _ _ _) (Tch.grown hg2 (fun g e => .inl (nb1 g e)))); have hr2 := hr.keep tw2 (by show ¬ W.heap.size ≤ z + 1; omega); have s0 := hr2.cell 0; have s1 := hr2.cell 1; have s2 := hr2.frozen 0; have s3 := hr2.frozen 1)
        | (refine step_append (ao := some ⟨W.heap.size + 1, 0, none⟩) _ (by rfl) _ _ _ (by rfl) rowStk (by first | exact ho1 | exact ho1.alloc _) (by rfl) (Src.one (news := [.slice An now.length cn]) rfl (fun j u hu => by first | exact hbn _ _ (by first | rfl | simp) j u hu | exact hg1.cell (hbn _ _ (by first | rfl | simp) j u hu) (by simp [Value.ownBlock]) | exact hg1.cell ((Tch.alloc (fun _ => False) _ _).cell_some (hbn _ _ (by first | rfl | simp) j u hu) id) (by simp [Value.ownBlock]))) (by rfl) (by simp [Value.oneCell']) (by unfold maxLen; omega) (by omega) ?_; intro v2 w2 ho2 hg2 hl2; obtain ⟨A2, c2, rfl, _, _, _⟩ := own_form ho2; have tw2 : Tch (fun g => W.heap.size ≤ g) W w2 := tw1.trans (by first | exact Tch.grown hg2 (fun g e => .inl (nb1 g e)) | exact Tch.trans (Tch.alloc _ _ _) (Tch.grown hg2 (fun g e => .inl (nb1 g e)))); have hr2 := hr.keep tw2 (by show ¬ W.heap.size ≤ z + 1; omega); have s0 := hr2.cell 0; have s1 := hr2.cell 1; have s2 := hr2.frozen 0; have s3 := hr2.frozen 1)
        | (refine step_append (v := .slice (some ⟨W.heap.size, 0, none⟩) 0 0) _ (by rfl) _ _ _ (by rfl) rowStk (by first | exact hmk _ _ (by first | rfl | simp) | exact (hmk _ _ (by first | rfl | simp)).alloc _) (by rfl) (hsr.keep (ht.trans (by repeat (first | exact Tch.refl _ _ | refine Tch.trans ?_ (Tch.drew _ _) | refine Tch.trans ?_ (Tch.alloc _ _ _))))).src (by rfl) hus (by unfold maxLen; omega) (by omega) ?_; intro v1 w1 ho1 hg1 hl1; rw [Nat.zero_add, List.nil_append] at ho1; have nb1 : ∀ g, v1.ownBlock = some g → W.heap.size ≤ g := (fun g e => by rcases hl1 g e with h | h <;> simp [Value.ownBlock] at h <;> omega); have tw1 : Tch (fun g => W.heap.size ≤ g) W w1 := Tch.trans (by repeat (first | exact Tch.refl _ _ | refine Tch.trans ?_ (Tch.drew _ _) | refine Tch.trans ?_ (Tch.alloc _ _ _))) (Tch.grown hg1 (fun g e => .inl (by simp [Value.ownBlock] at e; omega))); obtain ⟨A1, c1, rfl, _, _, _⟩ := own_form ho1)
        | (refine step_append (v := .slice (some ⟨W.heap.size + 1, 0, none⟩) 0 0) _ (by rfl) _ _ _ (by rfl) rowStk (by first | exact hmk _ _ (by first | rfl | simp) | exact (hmk _ _ (by first | rfl | simp)).alloc _) (by rfl) (hsr.keep (ht.trans (by repeat (first | exact Tch.refl _ _ | refine Tch.trans ?_ (Tch.drew _ _) | refine Tch.trans ?_ (Tch.alloc _ _ _))))).src (by rfl) hus (by unfold maxLen; omega) (by omega) ?_; intro v1 w1 ho1 hg1 hl1; rw [Nat.zero_add, List.nil_append] at ho1; have nb1 : ∀ g, v1.ownBlock = some g → W.heap.size ≤ g := (fun g e => by rcases hl1 g e with h | h <;> simp [Value.ownBlock] at h <;> omega); have tw1 : Tch (fun g => W.heap.size ≤ g) W w1 := Tch.trans (by repeat (first | exact Tch.refl _ _ | refine Tch.trans ?_ (Tch.drew _ _) | refine Tch.trans ?_ (Tch.alloc _ _ _))) (Tch.grown hg1 (fun g e => .inl (by simp [Value.ownBlock] at e; omega))); obtain ⟨A1, c1, rfl, _, _, _⟩ := own_form ho1))
    all_goals
      go_wp2
      have hbF := (hr2.set_ 0 (.slice An now.length cn)).set_ 1 (.slice A2 (thens.length + 1) c2)
      simp only [List.setIfInBounds_toArray, List.set_cons_succ, List.set_cons_zero] at hbF
      (try simp only [Exit.inBlock, Exit.then])
      refine bodyPost_ret (results_cell_row_tmp (P := Try.prog) rfl _ _ (z + 1) 52 _ (0, 0) _ rfl hbF Try.underlying52 rfl (by kernel_rfl)) rfl ?_
      have hw1 := tw1.size
      have hnb : ∀ g, (Value.slice A2 (thens.length + 1) c2).ownBlock = some g → ¬ g = z + 1 := fun g e => by
        rcases hl2 g e with h2 | h2
        · have := nb1 g h2; omega
        · first | (simp at h2; omega) | omega
      have tw3 := Tch.set2 w2 (z + 1) (.slice An now.length cn) (.slice A2 (thens.length + 1) c2)
      have ho3 := tw3.own ho2 hnb
      have tw4 := (tw2.mono (F' := fun g => w.heap.size ≤ g) fun g _ h => Nat.le_trans ht.size h).trans (tw3.mono fun g _ h => by omega)
      have tw5 := ht.trans' tw4 (fun i h => .inr h)
      refine ⟨_, rfl, ⟨_, _, rfl, hp.keep tw5, us ++ [.slice An now.length cn], ?_, fun i u l hu hl => ?_⟩, tw5⟩
      · simpa using RoRow.own (P := P) ho3 (fun g e => hP g (by have h0 := ht.size; rcases hl2 g e with h2 | h2; (have := nb1 g h2; omega); (first | (simp at h2; omega) | omega)))
      · have hul : us.length = thens.length := by obtain ⟨_, _, _, _, _, h, _⟩ := hsr; simpa using h
        by_cases hi : i < us.length
        · rw [List.getElem?_append_left hi] at hu
          rw [List.getElem?_append_left (by omega)] at hl
          exact (hsu i u l hu hl).keep tw5
        · rw [List.getElem?_append_right (by omega)] at hu hl
          rw [hul] at hu
          have h0 : i - thens.length = 0 := by
            by_cases h0 : i - thens.length = 0
            · exact h0
            · rw [List.getElem?_eq_none (by simp; omega)] at hu; cases hu
          rw [h0] at hu hl
          simp at hu hl
          subst hu hl
          exact hp.keep tw5

set_option maxRecDepth 100000 in
set_option maxHeartbeats 3200000 in
theorem rend_none {P : Nat → Prop} {w : World} {v : Value} {now : KV} {back : Bool} (h : BookR P w v now []) :
    Calls Try.prog 48 #[v, .bool back] w fun e w' => ∃ v', e = .returned (.tuple #[v', .int .i64 2]) ∧ BookR P w' v' now [] ∧ Tch (fun _ => False) w w' := by
  obtain ⟨nv, tv, rfl, hp, us, hsr, hsu⟩ := h
  obtain ⟨An, cn, rfl⟩ := hp.1.form
  obtain ⟨At, ct, rfl⟩ := hsr.form
  have hcap := hsr.cap
  go_enter Try.func48, Try.ntmps48
  go_wp2
  have hbF : Blk ((w.alloc (.cells #[.slice An now.length cn, .slice At 0 ct] 52)).alloc (.cells #[.slice An now.length cn, .slice At 0 ct] 52)) (w.heap.size + 1) 52 #[.slice An now.length cn, .slice At 0 ct] := by simpa using Blk.new (w.alloc (.cells #[.slice An now.length cn, .slice At 0 ct] 52)) 52 #[.slice An now.length cn, .slice At 0 ct]
  (try simp only [Exit.inBlock, Exit.then])
  refine bodyPost_ret (results_cell_row_tmp (P := Try.prog) rfl _ _ (w.heap.size + 1) 52 _ (0, 0) _ rfl hbF Try.underlying52 rfl (by kernel_rfl)) rfl ?_
  have tw5 : Tch (fun _ => False) w ((w.alloc (.cells #[.slice An now.length cn, .slice At 0 ct] 52)).alloc (.cells #[.slice An now.length cn, .slice At 0 ct] 52)) := (Tch.alloc _ _ _).trans (Tch.alloc _ _ _)
  exact ⟨_, rfl, ⟨_, _, rfl, hp.keep tw5, us, hsr.keep tw5, fun i u l hu hl => (hsu i u l hu hl).keep tw5⟩, tw5⟩

set_option maxRecDepth 100000 in
set_option maxHeartbeats 3200000 in
theorem rend_some {P : Nat → Prop} {w : World} {v : Value} {now last : KV} {thens : List KV} {back : Bool} (h : BookR P w v now (thens ++ [last])) :
    Calls Try.prog 48 #[v, .bool back] w fun e w' => ∃ v', e = .returned (.tuple #[v', .int .i64 0]) ∧ BookR P w' v' (if back then last else now) thens ∧ Tch (fun _ => False) w w' := by
  obtain ⟨nv, tv, rfl, hp, us, hsr, hsu⟩ := h
  obtain ⟨An, cn, rfl⟩ := hp.1.form
  rw [show (thens ++ [last]).length = thens.length + 1 by simp] at hsr
  obtain ⟨At, ct, rfl⟩ := hsr.form
  obtain ⟨m, hm⟩ : ∃ m, m = thens.length := ⟨_, rfl⟩
  rw [← hm] at hsr ⊢
  have hul : us.length = m + 1 := by obtain ⟨_, _, _, _, _, h, _⟩ := hsr; simpa using h
  have hcap := hsr.cap
  obtain ⟨g, rfl⟩ := hsr.head (by omega)
  have huat : us[m]? = some us[m] := List.getElem?_eq_getElem (by omega)
  have hlast := hsu m _ last huat (by rw [hm]; simp)
  obtain ⟨Au, cu, hu⟩ := hlast.1.form
  have hcu := hsr.at huat
  rw [hu] at hlast hcu
  have hst : ∀ (W : World), Tch (fun _ => False) w W → Stack P W (.slice (some ⟨g, 0, none⟩) m ct) thens := fun W t => by
    rw [hm] at hsr ⊢
    refine ⟨us.take (thens.length * 1), (hsr.take (by omega)).keep t, fun i u l hu hl => (hsu i u l ?_ ?_).keep t⟩
    · rw [List.getElem?_take] at hu; split at hu
      · exact hu
      · cases hu
    · have : i < thens.length := (List.getElem?_eq_some_iff.1 hl).1
      rw [List.getElem?_append_left this]; exact hl
  have HST := Lib.hid hst
  clear hst hsu hu huat hul hm
  have hW : ∃ W : World, W = (w.alloc (.cells #[.slice An now.length cn, .slice (some ⟨g, 0, none⟩) (m + 1) ct] 52)).alloc (.cells #[.slice none 0 0, .slice none 0 0] 52) := ⟨_, rfl⟩
  obtain ⟨W, hW⟩ := hW
  have ht : Tch (fun _ => False) w W := by rw [hW]; exact (Tch.alloc _ _ _).trans (Tch.alloc _ _ _)
  have hb : Blk W w.heap.size 52 #[.slice An now.length cn, .slice (some ⟨g, 0, none⟩) (m + 1) ct] := by rw [hW]; exact (Blk.new w _ _).alloc _
  have hr : Blk W (w.heap.size + 1) 52 #[.slice none 0 0, .slice none 0 0] := by rw [hW]; simpa using Blk.new (w.alloc (.cells #[.slice An now.length cn, .slice (some ⟨g, 0, none⟩) (m + 1) ct] 52)) 52 #[.slice none 0 0, .slice none 0 0]
  have i0 : (0 : Int) ≤ (m : Int) := Int.natCast_nonneg _
  have i1 : (m : Int) < (m : Int) + 1 := by omega
  have i2 : (m : Int) ≤ (ct : Int) := by omega
  have i3 : ((m : Int) + 1 == 0) = false := by simp; omega
  have i4 : m ≤ ct := by omega
  go_enter Try.func48, Try.ntmps48
  cases back
  · go_wp2_with fail
    rw [← hW]
    obtain ⟨z, hz⟩ : ∃ z, z = w.heap.size := ⟨_, rfl⟩
    rw [← hz] at hb hr ⊢
    have hzw : w.heap.size ≤ z + 1 := by omega
    have c0 := within_cell (F := fun _ => False) (hb.cell 0) id
    have c1 := within_cell (F := fun _ => False) (hb.cell 1) id
    have c2 := within_cell (F := fun _ => False) (ht.cell_some hcu id) id
    clear hW hz
    refine wp_region_touch (fun _ => False) [] 7 [] [] (by kernel_rfl) rfl (by kernel_rfl) rfl (fun d _ _ _ _ h => by cases d <;> exact h) trivial ?_
    intro bef ops hbef hops
    clear hbef hops
    simp only [List.take_succ_cons, List.take_zero, List.drop_succ_cons, List.drop_zero]
    iterate 7 (refine t_det (by rfl) (by rfl) (by rfl) (by rfl) (fun K hK => ?_); go_big_quiet_op; (first | refine hK _ ?_ | refine ⟨_, fun _ => rfl, hK _ ?_⟩); clear hK K)
    refine t_nil ?_
    intro w2 hrr hpp hap
    clear hap hpp c0 c1 c2
    have tw2 : Tch (fun _ => False) w w2 := ht.trans ((Tch.drew _ W).trans hrr)
    have hr2 := hr.keep ((Tch.drew _ W).trans hrr) id
    have s0 := hr2.cell 0
    have s1 := hr2.cell 1
    have s2 := hr2.frozen 0
    have s3 := hr2.frozen 1
    go_wp2
    have hbF := (hr2.set_ 0 (.slice An now.length cn)).set_ 1 (.slice (some ⟨g, 0, none⟩) m ct)
    simp only [List.setIfInBounds_toArray, List.set_cons_succ, List.set_cons_zero] at hbF
    (try simp only [Exit.inBlock, Exit.then])
    refine bodyPost_ret (results_cell_row_tmp (P := Try.prog) rfl _ _ (z + 1) 52 _ (0, 0) _ rfl hbF Try.underlying52 rfl (by kernel_rfl)) rfl ?_
    have tw5 := tw2.trans' (Tch.set2 w2 (z + 1) (.slice An now.length cn) (.slice (some ⟨g, 0, none⟩) m ct)) (fun i h => .inr (by omega))
    exact ⟨_, rfl, ⟨_, _, rfl, hp.keep tw5, HST.out _ tw5⟩, tw5⟩
  · go_wp2_with fail
    rw [← hW]
    obtain ⟨z, hz⟩ : ∃ z, z = w.heap.size := ⟨_, rfl⟩
    rw [← hz] at hb hr ⊢
    have hzw : w.heap.size ≤ z + 1 := by omega
    have c0 := within_cell (F := fun _ => False) (hb.cell 0) id
    have c1 := within_cell (F := fun _ => False) (hb.cell 1) id
    have c2 := within_cell (F := fun _ => False) (ht.cell_some hcu id) id
    clear hW hz
    refine wp_region_touch (fun _ => False) [] 11 [] [] (by kernel_rfl) rfl (by kernel_rfl) rfl (fun d _ _ _ _ h => by cases d <;> exact h) trivial ?_
    intro bef ops hbef hops
    clear hbef hops
    simp only [List.take_succ_cons, List.take_zero, List.drop_succ_cons, List.drop_zero]
    iterate 11 (refine t_det (by rfl) (by rfl) (by rfl) (by rfl) (fun K hK => ?_); go_big_quiet_op; (first | refine hK _ ?_ | refine ⟨_, fun _ => rfl, hK _ ?_⟩); clear hK K)
    refine t_nil ?_
    intro w2 hrr hpp hap
    clear hap hpp c0 c1 c2
    have tw2 : Tch (fun _ => False) w w2 := ht.trans ((Tch.drew _ W).trans hrr)
    have hr2 := hr.keep ((Tch.drew _ W).trans hrr) id
    have s0 := hr2.cell 0
    have s1 := hr2.cell 1
    have s2 := hr2.frozen 0
    have s3 := hr2.frozen 1
    go_wp2
    have hbF := (hr2.set_ 0 (.slice Au last.length cu)).set_ 1 (.slice (some ⟨g, 0, none⟩) m ct)
    simp only [List.setIfInBounds_toArray, List.set_cons_succ, List.set_cons_zero] at hbF
    (try simp only [Exit.inBlock, Exit.then])
    refine bodyPost_ret (results_cell_row_tmp (P := Try.prog) rfl _ _ (z + 1) 52 _ (0, 0) _ rfl hbF Try.underlying52 rfl (by kernel_rfl)) rfl ?_
    have tw5 := tw2.trans' (Tch.set2 w2 (z + 1) (.slice Au last.length cu) (.slice (some ⟨g, 0, none⟩) m ct)) (fun i h => .inr (by omega))
    exact ⟨_, rfl, ⟨_, _, rfl, hlast.keep tw5, HST.out _ tw5⟩, tw5⟩

end Go.Proofs.Ytnknemepfjfcfaa
