/- frame's reader: next, All; no condition but those that stand in each. -/
import Derived.Test.YtjpjlloimemcfaaProg
import Derived.Test.YtjpjlloimemcfaaLst2
import Derived.Test.YtjpjlloimemcfaaFrmA
import Derived.Test.YtjpjlloimemcfaaPAx12
import Derived.Deep.QuietTactic
import Derived.BigQuiet
import Derived.BigRegion
import Derived.RegionTactic
import Derived.Deep.RegionHeld3
import Derived.Deep.RegionLaw
import Derived.WalkSpells
import Derived.LoopTactic
import Derived.Deep.LoopGhost
import Derived.Shelf.Abstract
import Derived.OwnWalk
namespace Go.Proofs.Ytjpjlloimemcfaa.Frm
set_option linter.unusedVariables false
set_option linter.unusedSimpArgs false
open Go.RowKit Go.Proofs.Ytjpjlloimemcfaa.PA Go.Proofs.YtjpjlloimemcfaaW.PrintWords Go.Proofs.YtjpjlloimemcfaaW.PrintLast Go.Proofs.YtjpjlloimemcfaaW.PrintMore Go.Proofs.Ytjpjlloimemcfaa.Base Go.Proofs.Ytjpjlloimemcfaa.Var Go.Proofs.Ytjpjlloimemcfaa.Lst
attribute [local go_sem] max2_int min2_int max_two min_two max_three min_three max_four min_four
def encB : En Int := ⟨fun x => [.int .u8 x], 1, fun _ => rfl, fun x u hu => by simp at hu; subst hu; rfl, by decide⟩
theorem flat_u8 (xs : List Int) : xs.flatMap encB.enc = encs (Value.int .u8) xs := by
  induction xs with
  | nil => rfl
  | cons x xs ih => rw [List.flatMap_cons, ih]; rfl
theorem ls_of {w : World} {v : Value} {base : Nat} {xs : List Int} (h : Kd.R (Kd.int .u8) 5 w base (fun _ => True) v xs) : Ls encB 5 w base v xs := by
  have := Kd.own_of_R h
  unfold Ls
  rw [flat_u8]
  exact this
structure Sl where
  A : Option Addr
  n : Nat
  c : Nat
def Sl.v (s : Sl) : Value := .slice s.A s.n s.c
def encS : En Sl := ⟨fun s => [s.v], 1, fun _ => rfl, fun s u hu => by simp at hu; subst hu; rfl, by decide⟩
theorem info22 : (Try.prog.info? 22).map (fun i => (i.zero, i.size, i.bytes)) = some (some (.slice none 0 0), 1, 24) := by kernel_rfl
/-- a row of rows of bytes -/
def LL (W : World) (b0 : Nat) (v : Value) (xss : List (List Int)) : Prop := ∃ ss : List Sl, Ls encS 22 W b0 v ss ∧ ss.length = xss.length ∧ ∀ (i : Nat) (s : Sl) (xs : List Int), ss[i]? = some s → xss[i]? = some xs → Ls encB 5 W b0 s.v xs
section
variable {W W' : World} {b0 : Nat} {v : Value} {xss : List (List Int)}
theorem LL.nil (W : World) (b0 : Nat) : LL W b0 (.slice none 0 0) [] := ⟨[], Ls.nil _ _ _ _, rfl, fun i s xs h => by simp at h⟩
theorem LL.below (h : LL W b0 v xss) (hb : Below W.heap.size W W') : LL W' b0 v xss := by
  obtain ⟨ss, h1, h2, h3⟩ := h
  exact ⟨ss, h1.below hb, h2, fun i s xs a b => (h3 i s xs a b).below hb⟩
theorem LL.far (h : LL W b0 v xss) {g t : Nat} {cs : Array Value} (hg : W.heap[g]? = some (.cells cs t (0, 0))) (h1 : 22 ≠ t) (h2 : 5 ≠ t) (j : Nat) (u : Value) : LL (W.setCell ⟨g, j, none⟩ u) b0 v xss := by
  obtain ⟨ss, a1, a2, a3⟩ := h
  exact ⟨ss, a1.far (p := ⟨g, j, none⟩) (a1.ne hg h1) u, a2, fun i s xs a b => (a3 i s xs a b).far (p := ⟨g, j, none⟩) ((a3 i s xs a b).ne hg h2) u⟩
theorem LL.form (h : LL W b0 v xss) : ∃ A c, v = .slice A xss.length c ∧ xss.length ≤ c := by
  obtain ⟨ss, h1, h2, _⟩ := h
  obtain ⟨A, c, e, hc, _⟩ := h1.form
  rw [h2] at e hc
  exact ⟨A, c, e, hc⟩
end
set_option maxHeartbeats 8000000 in
theorem next_c (k : Nat) (A0 : Option Addr) (c0 : Nat) (l : List Int) (g i : Nat) (hi : i ≤ l.length) (hl : l.length ≤ 100000) (hc0 : l.length ≤ c0) (x : List Int) (m e0 : Int) (hm : 0 ≤ m ∧ m ≤ 100000) (hf : frame_Parse.f k (l.drop i) = some (x, m, e0)) (w : World) (hb : Kd.C (Kd.int .u8) w A0 l.length l) (hg : w.heap[g]? = some (.cells #[.slice A0 l.length c0, .int .i64 (i : Int)] 52 (0, 0))) :
    Calls Try.prog 27 #[.pointer (some ⟨g, 0, none⟩)] w fun e w' => ∃ v w1, e = .returned (.tuple #[v, .int .i64 e0]) ∧ Ls encB 5 w1 w.heap.size v x ∧ Below w.heap.size w w1 ∧ w1.setCell ⟨g, 1, none⟩ (.int .i64 ((i : Int) + m)) = w' := by
  have HB := Aside0.mk hb
  have HG := Aside0.mk hg
  have hd := Kd.C_drop (k := Kd.int .u8) hb hi hc0
  obtain ⟨A1, hA1⟩ : ∃ A1 : Option Addr, (if c0 = i then A0 else A0.map (·.add (i * (Kd.int .u8).sz))) = A1 := ⟨_, rfl⟩
  rw [hA1] at hd
  have hA2 : (if c0 = i then A0 else Option.map (fun x => x.add i) A0) = A1 := by rw [← hA1, show (Kd.int .u8).sz = 1 from rfl, Nat.mul_one]
  have HD := Aside0.mk (show ∀ W, Below w.heap.size w W → Calls Try.prog 11 #[.slice A1 (l.length - i) (c0 - i)] W fun e w' => ∃ v0_ : Value, e = .returned (.tuple #[v0_, .int .i64 m, .int .i64 e0]) ∧ Kd.R (Kd.int .u8) 5 w' W.heap.size (fun _ => True) v0_ x ∧ Below W.heap.size W w' from fun W hb => by
    have q := frame_Parse.calls k A1 (c0 - i) (l.drop i) x m e0 W (Kd.C_below hd hb) (by rw [List.length_drop]; omega) hf
    rw [List.length_drop] at q
    exact q)
  have hk0 : (World.drew w).cell? ⟨g, 0, none⟩ = some (.slice A0 l.length c0) := blk_cell hg 0
  have hk1 : (World.drew w).cell? ⟨g, 1, none⟩ = some (.int .i64 (i : Int)) := blk_cell hg 1
  have e1 : wrap64 ((i : Int) + m) = (i : Int) + m := w64 (by omega) (by omega)
  have hs1 : (0 : Int) ≤ (i : Int) := by omega
  have hs2 : (i : Int) ≤ (l.length : Int) := by omega
  clear hb hg hd hA1
  go_enter Try.func27, Try.ntmps27
  go_upto_region 1 with (fail)
  refine start_ (n := 17) (S := fun w' => w'.cell? ⟨g, 0, none⟩ = some (.slice A0 l.length c0) ∧ w'.cell? ⟨g, 1, none⟩ = some (.int .i64 (i : Int))) (ds := []) #[false, false, false, false, false, false, false, false, false, false, false, false, false, false, false, false, false] (by kernel_rfl) rfl rfl ⟨hk0, hk1⟩ (fun hHeld => ?_)
  refine pure_ (i := 0) (N := some 8) (v := ?_) (a' := ?_) #[true, false, false, false, false, false, false, false, false, false, false, false, false, false, false, false, false] rfl rfl (by kernel_rfl) (fun _ _ _ h => h) (Or.inl ⟨by rfl, ?_⟩) ?_ ?_
  rotate_left
  · intro w'
    go_simp
    with_reducible rfl
  rotate_left
  · simp only [Act.put, List.setIfInBounds_toArray, List.set_cons_zero, List.set_cons_succ, i64_w, i32_w]
    rfl
  refine pure_ (i := 1) (N := some 9) (v := ?_) (a' := ?_) #[true, true, false, false, false, false, false, false, false, false, false, false, false, false, false, false, false] rfl rfl (by kernel_rfl) (fun _ _ _ h => h) (Or.inl ⟨by rfl, ?_⟩) ?_ ?_
  rotate_left
  · intro w'
    go_simp
    with_reducible rfl
  rotate_left
  · simp only [Act.put, List.setIfInBounds_toArray, List.set_cons_zero, List.set_cons_succ, i64_w, i32_w]
    rfl
  refine pure_ (i := 2) (N := some 10) (v := ?_) (a' := ?_) #[true, true, true, false, false, false, false, false, false, false, false, false, false, false, false, false, false] rfl rfl (by kernel_rfl) (fun _ _ _ h => h) (Or.inl ⟨by rfl, ?_⟩) ?_ ?_
  rotate_left
  · intro w'
    go_simp
    with_reducible rfl
  rotate_left
  · simp only [Act.put, List.setIfInBounds_toArray, List.set_cons_zero, List.set_cons_succ, i64_w, i32_w]
    rfl
  refine pure_ (i := 4) (N := some 12) (v := ?_) (a' := ?_) #[true, true, true, false, true, false, false, false, false, false, false, false, false, false, false, false, false] rfl rfl (by kernel_rfl) (fun _ _ _ h => h) (Or.inl ⟨by rfl, ?_⟩) ?_ ?_
  rotate_left
  · intro w'
    go_simp
    with_reducible rfl
  rotate_left
  · simp only [Act.put, List.setIfInBounds_toArray, List.set_cons_zero, List.set_cons_succ, i64_w, i32_w]
    rfl
  refine pure_ (i := 5) (N := some 13) (v := ?_) (a' := ?_) #[true, true, true, false, true, true, false, false, false, false, false, false, false, false, false, false, false] rfl rfl (by kernel_rfl) (fun _ _ _ h => h) (Or.inl ⟨by rfl, ?_⟩) ?_ ?_
  rotate_left
  · intro w'
    go_simp
    with_reducible rfl
  rotate_left
  · simp only [Act.put, List.setIfInBounds_toArray, List.set_cons_zero, List.set_cons_succ, i64_w, i32_w]
    rfl
  refine pure_ (i := 6) (N := some 14) (v := ?_) (a' := ?_) #[true, true, true, false, true, true, true, false, false, false, false, false, false, false, false, false, false] rfl rfl (by kernel_rfl) (fun _ _ _ h => h) (Or.inl ⟨by rfl, ?_⟩) ?_ ?_
  rotate_left
  · intro w'
    go_simp
    with_reducible rfl
  rotate_left
  · simp only [Act.put, List.setIfInBounds_toArray, List.set_cons_zero, List.set_cons_succ, i64_w, i32_w]
    rfl
  refine take_ (i := 3) (N := some 11) (v := ?_) (a' := ?_) #[true, true, true, true, true, true, true, false, false, false, false, false, false, false, false, false, false] rfl rfl (by kernel_rfl) (fun _ _ _ h => h) (Or.inl ⟨by rfl, ?_⟩) hHeld ?_ ?_
  rotate_left
  · rintro w' ⟨s0, s1⟩
    go_simp
    with_reducible rfl
  rotate_left
  · simp only [Act.put, List.setIfInBounds_toArray, List.set_cons_zero, List.set_cons_succ, i64_w, i32_w]
    rfl
  refine take_ (i := 7) (N := some 15) (v := ?_) (a' := ?_) #[true, true, true, true, true, true, true, true, false, false, false, false, false, false, false, false, false] rfl rfl (by kernel_rfl) (fun _ _ _ h => h) (Or.inl ⟨by rfl, ?_⟩) hHeld ?_ ?_
  rotate_left
  · rintro w' ⟨s0, s1⟩
    go_simp
    with_reducible rfl
  rotate_left
  · simp only [Act.put, List.setIfInBounds_toArray, List.set_cons_zero, List.set_cons_succ, i64_w, i32_w]
    rfl
  refine pure_ (i := 8) (N := some 16) (v := ?_) (a' := ?_) #[true, true, true, true, true, true, true, true, true, false, false, false, false, false, false, false, false] rfl rfl (by kernel_rfl) (fun _ _ _ h => h) (Or.inl ⟨by rfl, ?_⟩) ?_ ?_
  rotate_left
  · intro w'
    go_simp
    with_reducible rfl
  rotate_left
  · simp only [Act.put, List.setIfInBounds_toArray, List.set_cons_zero, List.set_cons_succ, i64_w, i32_w]
    rfl
  refine one_ (i := 9) (N := some 17) #[true, true, true, true, true, true, true, true, true, true, false, false, false, false, false, false, false] rfl rfl (by kernel_rfl) (by decide) (fun K hK => ?_)
  refine goes_ Try.func11 (by kernel_rfl) rfl #[.slice A1 (l.length - i) (c0 - i)] (by rfl) rfl rfl (by simp only [List.map_toArray, List.map_cons, List.map_nil]; rfl) ?_
  with_reducible refine (HD.out _ (below_drew (Below.refl _ _))).mono ?_
  rintro e w3 ⟨v0, rfl, hR, hb3⟩
  refine ⟨_, rfl, ?_⟩
  have HR := Aside0.mk hR
  have HB3 := Aside0.mk (below_step (below_drew (Below.refl w.heap.size w)) hb3)
  have k0 := pw_cell_below hb3 hk0
  have k1 := pw_cell_below hb3 hk1
  have hbl := blk_below (blk_drew HG.out) hb3
  have f1 := blk_frozen hbl 1
  clear hR hb3
  refine hK.out _ _ ⟨k0, k1⟩ (fun hHeld => ?_)
  clear hK K
  refine norm_ (a' := ?_) ?_ ?_
  rotate_left
  · show Act.put _ (some 17) _ = _
    simp only [Act.put, List.setIfInBounds_toArray, List.set_cons_zero, List.set_cons_succ, i64_w, i32_w]
    rfl
  refine pure_ (i := 10) (N := some 7) (v := ?_) (a' := ?_) #[true, true, true, true, true, true, true, true, true, true, true, false, false, false, false, false, false] rfl rfl (by kernel_rfl) (fun _ _ _ h => h) (Or.inl ⟨by rfl, ?_⟩) ?_ ?_
  rotate_left
  · intro w'
    go_simp
    with_reducible rfl
  rotate_left
  · simp only [Act.put, List.setIfInBounds_toArray, List.set_cons_zero, List.set_cons_succ, i64_w, i32_w]
    rfl
  refine pure_ (i := 11) (N := some 18) (v := ?_) (a' := ?_) #[true, true, true, true, true, true, true, true, true, true, true, true, false, false, false, false, false] rfl rfl (by kernel_rfl) (fun _ _ _ h => h) (Or.inl ⟨by rfl, ?_⟩) ?_ ?_
  rotate_left
  · intro w'
    go_simp
    with_reducible rfl
  rotate_left
  · simp only [Act.put, List.setIfInBounds_toArray, List.set_cons_zero, List.set_cons_succ, i64_w, i32_w]
    rfl
  refine pure_ (i := 12) (N := some 19) (v := ?_) (a' := ?_) #[true, true, true, true, true, true, true, true, true, true, true, true, true, false, false, false, false] rfl rfl (by kernel_rfl) (fun _ _ _ h => h) (Or.inl ⟨by rfl, ?_⟩) ?_ ?_
  rotate_left
  · intro w'
    go_simp
    with_reducible rfl
  rotate_left
  · simp only [Act.put, List.setIfInBounds_toArray, List.set_cons_zero, List.set_cons_succ, i64_w, i32_w]
    rfl
  refine pure_ (i := 13) (N := some 20) (v := ?_) (a' := ?_) #[true, true, true, true, true, true, true, true, true, true, true, true, true, true, false, false, false] rfl rfl (by kernel_rfl) (fun _ _ _ h => h) (Or.inl ⟨by rfl, ?_⟩) ?_ ?_
  rotate_left
  · intro w'
    go_simp
    with_reducible rfl
  rotate_left
  · simp only [Act.put, List.setIfInBounds_toArray, List.set_cons_zero, List.set_cons_succ, i64_w, i32_w]
    rfl
  refine pure_ (i := 14) (N := some 4) (v := ?_) (a' := ?_) #[true, true, true, true, true, true, true, true, true, true, true, true, true, true, true, false, false] rfl rfl (by kernel_rfl) (fun _ _ _ h => h) (Or.inl ⟨by rfl, ?_⟩) ?_ ?_
  rotate_left
  · intro w'
    go_simp
    with_reducible rfl
  rotate_left
  · simp only [Act.put, List.setIfInBounds_toArray, List.set_cons_zero, List.set_cons_succ, i64_w, i32_w]
    rfl
  refine pure_ (i := 15) (N := some 5) (v := ?_) (a' := ?_) #[true, true, true, true, true, true, true, true, true, true, true, true, true, true, true, true, false] rfl rfl (by kernel_rfl) (fun _ _ _ h => h) (Or.inl ⟨by rfl, ?_⟩) ?_ ?_
  rotate_left
  · intro w'
    go_simp
    with_reducible rfl
  rotate_left
  · simp only [Act.put, List.setIfInBounds_toArray, List.set_cons_zero, List.set_cons_succ, i64_w, i32_w]
    rfl
  refine pure_ (i := 16) (N := some 6) (v := ?_) (a' := ?_) #[true, true, true, true, true, true, true, true, true, true, true, true, true, true, true, true, true] rfl rfl (by kernel_rfl) (fun _ _ _ h => h) (Or.inl ⟨by rfl, ?_⟩) ?_ ?_
  rotate_left
  · intro w'
    go_simp
    with_reducible rfl
  rotate_left
  · simp only [Act.put, List.setIfInBounds_toArray, List.set_cons_zero, List.set_cons_succ, i64_w, i32_w]
    rfl
  refine done_ (by kernel_rfl) ?_
  have HBK := Aside0.mk hbl
  clear hbl
  go_wp2_with fail
  go_ret2
  exact ⟨_, w3, rfl, (ls_of HR.out).lower (Nat.le_refl _), HB3.out, rfl⟩
theorem parse_err {l : List Int} {x : List Int} {m e : Int} (h : parseV l = (x, m, e)) (he : e ≠ 0) : x = [] ∧ m = 0 := by
  unfold parseV at h
  split at h
  · split at h
    · simp only [Prod.mk.injEq] at h; exact ⟨h.1.symm, h.2.1.symm⟩
    · split at h
      · simp only [Prod.mk.injEq] at h; exact absurd h.2.2.symm he
      · simp only [Prod.mk.injEq] at h; exact ⟨h.1.symm, h.2.1.symm⟩
  · simp only [Prod.mk.injEq] at h; exact ⟨h.1.symm, h.2.1.symm⟩
theorem LL.push {W W' : World} {b0 : Nat} {v v' : Value} {xss : List (List Int)} {ss : List Sl} (h1 : Ls encS 22 W b0 v ss) (h2 : ss.length = xss.length) (h3 : ∀ (i : Nat) (s : Sl) (xs : List Int), ss[i]? = some s → xss[i]? = some xs → Ls encB 5 W b0 s.v xs) {y : Sl} {x : List Int} (hx : Ls encB 5 W b0 y.v x) (hp : Ls encS 22 W' b0 v' (ss ++ [y])) (hg : W.grownBy W' v.ownBlock) : LL W' b0 v' (xss ++ [x]) := by
  have hne : ∀ (u : Value) (xs : List Int), Ls encB 5 W b0 u xs → u.ownBlock = none ∨ u.ownBlock ≠ v.ownBlock := fun u xs h => by
    cases e : u.ownBlock with
    | none => exact .inl rfl
    | some k =>
      refine .inr fun e' => ?_
      obtain ⟨_, _, cur, hc⟩ := h.own k e
      exact h1.ne hc (by decide) e'
  refine ⟨ss ++ [y], hp, by rw [List.length_append, List.length_append, h2]; rfl, fun i s xs a b => ?_⟩
  rcases Nat.lt_or_ge i ss.length with c | c
  · rw [List.getElem?_append_left c] at a
    rw [List.getElem?_append_left (by omega)] at b
    have q := h3 i s xs a b
    exact q.grown hg (hne _ _ q)
  · rw [List.getElem?_append_right c] at a
    rw [List.getElem?_append_right (by omega), ← h2] at b
    have hi : i - ss.length = 0 := by
      have := (List.getElem?_eq_some_iff.1 a).1
      simp at this; omega
    rw [hi] at a b
    simp at a b
    subst a b
    exact hx.grown hg (hne _ _ hx)
theorem next_l (k : Nat) (A0 : Option Addr) (c0 : Nat) (l : List Int) (g i : Nat) (hi : i ≤ l.length) (hl : l.length ≤ 100000) (hc0 : l.length ≤ c0) (x : List Int) (m e0 : Int) (hm : 0 ≤ m ∧ m ≤ 100000) (hf : frame_Parse.f k (l.drop i) = some (x, m, e0)) (w0 w : World) (hb : Kd.C (Kd.int .u8) w A0 l.length l) (hg : w.heap[g]? = some (.cells #[.slice A0 l.length c0, .int .i64 (i : Int)] 52 (0, 0)))
    (vo : Value) (xs : List (List Int)) (hll : LL w w0.heap.size vo xs) (hbw : Below w0.heap.size w0 w) (hge : w0.heap.size ≤ g) :
    Calls Try.prog 27 #[.pointer (some ⟨g, 0, none⟩)] w fun e w' => ∃ A2 c2, e = .returned (.tuple #[.slice A2 x.length c2, .int .i64 e0]) ∧ Ls encB 5 w' w0.heap.size (.slice A2 x.length c2) x ∧ LL w' w0.heap.size vo xs ∧ w'.heap[g]? = some (.cells #[.slice A0 l.length c0, .int .i64 ((i : Int) + m)] 52 (0, 0)) ∧ Below w0.heap.size w0 w' := by
  refine (next_c k A0 c0 l g i hi hl hc0 x m e0 hm hf w hb hg).mono ?_
  rintro e w9 ⟨v, w8, rfl, hv, hb8, rfl⟩
  obtain ⟨A2, c2, rfl, _, _⟩ := hv.form
  have hg8 := blk_below hg hb8
  exact ⟨A2, c2, rfl, (hv.lower hbw.size).far (p := ⟨g, 1, none⟩) (hv.ne hg8 (by decide)) _, (hll.below hb8).far hg8 (by decide) (by decide) 1 _, blk_set hg8 1 _, below_set (below_step hbw hb8) hge⟩
theorem info52 : (Try.prog.info? 52).map (fun i => (i.zero, i.size, i.bytes)) = some (some (.agg #[.slice none 0 0, .int .i64 0]), 2, 32) := by kernel_rfl
set_option maxHeartbeats 16000000 in
theorem all_c (A0 : Option Addr) (c0 : Nat) (l : List Int) (hl : l.length ≤ 3000) (hbs : Bytes l) (hc0 : l.length ≤ c0) (xss : List (List Int)) (to_ : Nat) (e0 : Int) (ha : allV l l.length 0 = (xss, to_, e0)) (w : World) (hb : Kd.C (Kd.int .u8) w A0 l.length l) :
    Calls Try.prog 14 #[.slice A0 l.length c0] w fun e w' => ∃ v, e = .returned (.tuple #[v, .int .i64 (to_ : Int), .int .i64 e0]) ∧ LL w' w.heap.size v xss ∧ Below w.heap.size w w' := by
  have HB := Aside0.mk hb; have HL := Aside0.mk hl; have HBS := Aside0.mk hbs; have HC := Aside0.mk hc0; have HA := Aside0.mk ha
  obtain ⟨g, hg⟩ : ∃ g, w.heap.size = g := ⟨_, rfl⟩
  obtain ⟨w1, hw1⟩ : ∃ w1, w.alloc (.cells #[.slice A0 l.length c0, .int .i64 0] 52) = w1 := ⟨_, rfl⟩
  have b1 : Below w.heap.size w w1 := by rw [← hw1]; exact below_alloc (Below.refl _ _) _
  have HG := Aside0.mk (show w1.heap[g]? = some (.cells #[.slice A0 l.length c0, .int .i64 ((0 : Nat) : Int)] 52 (0, 0)) from by rw [← hw1, ← hg]; exact blk_new _ _)
  have HBW := Aside0.mk b1
  have HGE := Aside0.mk (show w.heap.size ≤ g by omega)
  have hu52 := Try.underlying52
  obtain ⟨i0, hi0, _, hs0, _⟩ := info_parts info52
  obtain ⟨n0, hn0⟩ : ∃ n0, l.length = n0 := ⟨_, rfl⟩
  have HN0 := Aside0.mk hn0
  clear hb hl hbs hc0 ha b1 hn0
  go_enter Try.func14, Try.ntmps14
  go_wp2_with fail
  go_loopg [5] (l.length) (fun kf vo wr => ∃ (i : Nat) (xs : List (List Int)), Aside0 (i ≤ l.length ∧ l.length - i ≤ kf) ∧ Aside0 (xs ++ (allV l kf i).1 = xss ∧ (allV l kf i).2 = (to_, e0)) ∧ Aside0 (LL wr w.heap.size vo xs) ∧ Aside0 (wr.heap[g]? = some (.cells #[.slice A0 l.length c0, .int .i64 (i : Int)] 52 (0, 0))) ∧ Aside0 (Below w.heap.size w wr) ∧ Aside0 (xs.length ≤ i))
  case atStart => exact ⟨0, [], ⟨by omega⟩, ⟨by rw [HA.out]; exact ⟨rfl, rfl⟩⟩, ⟨LL.nil _ _⟩, HG, HBW, ⟨Nat.le_refl _⟩⟩
  case round =>
    clear HG HBW
    obtain ⟨i, xs, HI, HAV, HLL, HG, HBW, HXL⟩ := hrel
    have l1 := HI.out.1
    have l0 := HL.out
    have k1 := blk_cell HG.out 1
    by_cases hlt : i < l.length
    · have d1 : decide ((i : Int) < (l.length : Int)) = true := decide_eq_true (by omega)
      have d1' : decide (i < l.length) = true := decide_eq_true hlt
      rcases hp : parseV (l.drop i) with ⟨x, m, e⟩
      obtain ⟨K, hK⟩ := parse_ev (l.drop i) (by rw [List.length_drop]; omega) (Bytes.drop HBS.out i)
      have hf := hK K (Nat.le_refl K)
      rw [hp] at hf
      obtain ⟨f, hkf⟩ : ∃ f, gk = f + 1 := ⟨gk - 1, by have := HI.out.2; omega⟩
      have hav := HAV.out
      rw [hkf] at hav
      unfold allV at hav
      rw [if_pos hlt, hp] at hav
      dsimp only at hav
      have hcb := Kd.C_below HB.out HBW.out
      by_cases he : e = 0
      · subst he
        rw [if_pos rfl] at hav
        obtain ⟨a1, a2, a3, a4, a5⟩ := again (Bytes.drop HBS.out i) hp
        rw [List.length_drop] at a3
        have HN := Aside0.mk (next_l K A0 c0 l g i l1 (by omega) HC.out x m 0 (by omega) hf w wr hcb HG.out u5 xs HLL.out HBW.out HGE.out)
        have HAV2 := Aside0.mk hav
        have HM := Aside0.mk (show 8 ≤ m ∧ m ≤ ((l.length - i : Nat) : Int) from ⟨a2, a3⟩)
        have HF := Aside0.mk hkf
        clear hp hK hf hav hcb a1 a2 a3 a4 a5 hkf
        go_upto_region 8 with (first | (go_at_call 27; (with_reducible refine HN.out.mono ?_); rintro e w9 ⟨A2, c2, rfl, hv, hll, hg9, hb9⟩; have HX9 := Aside0.mk hv; have HLL9 := Aside0.mk hll; have HG9 := Aside0.mk hg9; have HBW9 := Aside0.mk hb9; have k9 := blk_cell hg9 1; clear hv hll hg9 hb9))
        obtain ⟨ss, hs1, hs2, hs3⟩ := HLL9.out
        go_wp2_with (first | (at_builtin; refine wpList_push (d := encS) rfl _ _ 34 22 _ 24 rfl Try.underlying34 info22 rfl w.heap.size u5 ss ⟨A2, x.length, c2⟩ rfl _ rfl (by simp) hs1 HBW9.out.size (by have := HXL.out; omega) (by decide) _ rfl ?_; intro v7 w7 h1 h2 h3; have HL2 := Aside0.mk (LL.push (y := ⟨A2, x.length, c2⟩) hs1 hs2 hs3 HX9.out h1 h2); have HG2 := Aside0.mk (blk_grown HG9.out h2 (hs1.ne HG9.out (by decide))); have HBW2 := Aside0.mk (pw_below_grown HBW9.out _ HBW9.out.size h2 (fun k hk => (hs1.own k hk).1)); clear h1 h2 h3) | go_in)
        go_roundg f
        case measure => have := HF.out; omega
        case rel =>
          obtain ⟨n, hn⟩ : ∃ n : Nat, m = n := ⟨m.toNat, by have := HM.out; omega⟩
          have hm := HM.out
          subst hn
          refine ⟨i + n, xs ++ [x], ⟨by have := HI.out; have := HF.out; omega⟩, ⟨by have q := HAV2.out; rw [Int.toNat_natCast] at q; exact ⟨by rw [List.append_assoc]; exact q.1, q.2⟩⟩, HL2, ⟨by have q := HG2.out; rw [show ((i + n : Nat) : Int) = (i : Int) + (n : Int) from Int.natCast_add i n]; exact q⟩, HBW2, ⟨by rw [List.length_append, List.length_singleton]; have := HXL.out; omega⟩⟩
      · rw [if_neg he] at hav
        obtain ⟨rfl, rfl⟩ := parse_err hp he
        have HN := Aside0.mk (next_l K A0 c0 l g i l1 (by omega) HC.out [] 0 e (by omega) hf w wr hcb HG.out u5 xs HLL.out HBW.out HGE.out)
        rw [List.append_nil] at hav
        simp only [Prod.mk.injEq] at hav
        obtain ⟨rfl, rfl, rfl⟩ := hav
        have e1 : (e != 0) = true := by simpa using he
        clear hp hK hf hcb hkf he
        go_upto_region 7 with (first | (go_at_call 27; (with_reducible refine HN.out.mono ?_); rintro e w9 ⟨A2, c2, rfl, hv, hll, hg9, hb9⟩; have HX9 := Aside0.mk hv; have HLL9 := Aside0.mk hll; have HG9 := Aside0.mk hg9; have HBW9 := Aside0.mk hb9; have k9 := blk_cell hg9 1; clear hv hll hg9 hb9))
        have k7 : (World.drew w9).cell? ⟨g, 1, none⟩ = some (.int .i64 ((i : Int) + 0)) := k9
        have e2 : (i : Int) + 0 = (i : Int) := by omega
        refine start_ (n := 9) (S := fun w' => w'.cell? ⟨g, 1, none⟩ = some (.int .i64 ((i : Int) + 0))) (ds := []) #[false, false, false, false, false, false, false, false, false] (by kernel_rfl) rfl rfl (k7) (fun hHeld => ?_)
        refine pure_ (i := 0) (N := some 29) (v := ?_) (a' := ?_) #[true, false, false, false, false, false, false, false, false] rfl rfl (by kernel_rfl) (fun _ _ _ h => h) (Or.inl ⟨by rfl, ?_⟩) ?_ ?_
        rotate_left
        · intro w'
          go_simp
          with_reducible rfl
        rotate_left
        · simp only [Act.put, List.setIfInBounds_toArray, List.set_cons_zero, List.set_cons_succ, i64_w, i32_w]
          rfl
        refine pure_ (i := 1) (N := some 30) (v := ?_) (a' := ?_) #[true, true, false, false, false, false, false, false, false] rfl rfl (by kernel_rfl) (fun _ _ _ h => h) (Or.inl ⟨by rfl, ?_⟩) ?_ ?_
        rotate_left
        · intro w'
          go_simp
          with_reducible rfl
        rotate_left
        · simp only [Act.put, List.setIfInBounds_toArray, List.set_cons_zero, List.set_cons_succ, i64_w, i32_w]
          rfl
        refine pure_ (i := 2) (N := some 31) (v := ?_) (a' := ?_) #[true, true, true, false, false, false, false, false, false] rfl rfl (by kernel_rfl) (fun _ _ _ h => h) (Or.inl ⟨by rfl, ?_⟩) ?_ ?_
        rotate_left
        · intro w'
          go_simp
          with_reducible rfl
        rotate_left
        · simp only [Act.put, List.setIfInBounds_toArray, List.set_cons_zero, List.set_cons_succ, i64_w, i32_w]
          rfl
        refine pure_ (i := 3) (N := some 32) (v := ?_) (a' := ?_) #[true, true, true, true, false, false, false, false, false] rfl rfl (by kernel_rfl) (fun _ _ _ h => h) (Or.inl ⟨by rfl, ?_⟩) ?_ ?_
        rotate_left
        · intro w'
          go_simp
          with_reducible rfl
        rotate_left
        · simp only [Act.put, List.setIfInBounds_toArray, List.set_cons_zero, List.set_cons_succ, i64_w, i32_w]
          rfl
        refine pure_ (i := 5) (N := some 34) (v := ?_) (a' := ?_) #[true, true, true, true, false, true, false, false, false] rfl rfl (by kernel_rfl) (fun _ _ _ h => h) (Or.inl ⟨by rfl, ?_⟩) ?_ ?_
        rotate_left
        · intro w'
          go_simp
          with_reducible rfl
        rotate_left
        · simp only [Act.put, List.setIfInBounds_toArray, List.set_cons_zero, List.set_cons_succ, i64_w, i32_w]
          rfl
        refine pure_ (i := 6) (N := some 2) (v := ?_) (a' := ?_) #[true, true, true, true, false, true, true, false, false] rfl rfl (by kernel_rfl) (fun _ _ _ h => h) (Or.inl ⟨by rfl, ?_⟩) ?_ ?_
        rotate_left
        · intro w'
          go_simp
          with_reducible rfl
        rotate_left
        · simp only [Act.put, List.setIfInBounds_toArray, List.set_cons_zero, List.set_cons_succ, i64_w, i32_w]
          rfl
        refine take_ (i := 4) (N := some 33) (v := ?_) (a' := ?_) #[true, true, true, true, true, true, true, false, false] rfl rfl (by kernel_rfl) (fun _ _ _ h => h) (Or.inl ⟨by rfl, ?_⟩) hHeld ?_ ?_
        rotate_left
        · intro w' s0
          go_simp
          with_reducible rfl
        rotate_left
        · simp only [Act.put, List.setIfInBounds_toArray, List.set_cons_zero, List.set_cons_succ, i64_w, i32_w]
          rfl
        refine pure_ (i := 7) (N := some 3) (v := ?_) (a' := ?_) #[true, true, true, true, true, true, true, true, false] rfl rfl (by kernel_rfl) (fun _ _ _ h => h) (Or.inl ⟨by rfl, ?_⟩) ?_ ?_
        rotate_left
        · intro w'
          go_simp
          with_reducible rfl
        rotate_left
        · simp only [Act.put, List.setIfInBounds_toArray, List.set_cons_zero, List.set_cons_succ, i64_w, i32_w]
          rfl
        refine pure_ (i := 8) (N := some 4) (v := ?_) (a' := ?_) #[true, true, true, true, true, true, true, true, true] rfl rfl (by kernel_rfl) (fun _ _ _ h => h) (Or.inl ⟨by rfl, ?_⟩) ?_ ?_
        rotate_left
        · intro w'
          go_simp
          with_reducible rfl
        rotate_left
        · simp only [Act.put, List.setIfInBounds_toArray, List.set_cons_zero, List.set_cons_succ, i64_w, i32_w]
          rfl
        refine done_ (by kernel_rfl) ?_
        go_wp2_with fail
        go_ret3
        exact ⟨_, rfl, HLL9.out, below_drew HBW9.out⟩
    · have hav := HAV.out
      have : allV l gk i = ([], i, 0) := by cases gk with
        | zero => rfl
        | succ f => unfold allV; rw [if_neg hlt]
      rw [this, List.append_nil] at hav
      simp only [Prod.mk.injEq] at hav
      obtain ⟨rfl, rfl, rfl⟩ := hav
      have d1 : decide ((i : Int) < (l.length : Int)) = false := decide_eq_false (by omega)
      have d1' : decide (i < l.length) = false := decide_eq_false hlt
      clear this
      go_upto_region 9 with (fail)
      have k7 : (World.drew wr).cell? ⟨g, 1, none⟩ = some (.int .i64 (i : Int)) := k1
      refine start_ (n := 8) (S := fun w' => w'.cell? ⟨g, 1, none⟩ = some (.int .i64 (i : Int))) (ds := []) #[false, false, false, false, false, false, false, false] (by kernel_rfl) rfl rfl (k7) (fun hHeld => ?_)
      refine pure_ (i := 0) (N := some 39) (v := ?_) (a' := ?_) #[true, false, false, false, false, false, false, false] rfl rfl (by kernel_rfl) (fun _ _ _ h => h) (Or.inl ⟨by rfl, ?_⟩) ?_ ?_
      rotate_left
      · intro w'
        go_simp
        with_reducible rfl
      rotate_left
      · simp only [Act.put, List.setIfInBounds_toArray, List.set_cons_zero, List.set_cons_succ, i64_w, i32_w]
        rfl
      refine pure_ (i := 1) (N := some 40) (v := ?_) (a' := ?_) #[true, true, false, false, false, false, false, false] rfl rfl (by kernel_rfl) (fun _ _ _ h => h) (Or.inl ⟨by rfl, ?_⟩) ?_ ?_
      rotate_left
      · intro w'
        go_simp
        with_reducible rfl
      rotate_left
      · simp only [Act.put, List.setIfInBounds_toArray, List.set_cons_zero, List.set_cons_succ, i64_w, i32_w]
        rfl
      refine pure_ (i := 2) (N := some 41) (v := ?_) (a' := ?_) #[true, true, true, false, false, false, false, false] rfl rfl (by kernel_rfl) (fun _ _ _ h => h) (Or.inl ⟨by rfl, ?_⟩) ?_ ?_
      rotate_left
      · intro w'
        go_simp
        with_reducible rfl
      rotate_left
      · simp only [Act.put, List.setIfInBounds_toArray, List.set_cons_zero, List.set_cons_succ, i64_w, i32_w]
        rfl
      refine pure_ (i := 3) (N := some 42) (v := ?_) (a' := ?_) #[true, true, true, true, false, false, false, false] rfl rfl (by kernel_rfl) (fun _ _ _ h => h) (Or.inl ⟨by rfl, ?_⟩) ?_ ?_
      rotate_left
      · intro w'
        go_simp
        with_reducible rfl
      rotate_left
      · simp only [Act.put, List.setIfInBounds_toArray, List.set_cons_zero, List.set_cons_succ, i64_w, i32_w]
        rfl
      refine pure_ (i := 5) (N := some 2) (v := ?_) (a' := ?_) #[true, true, true, true, false, true, false, false] rfl rfl (by kernel_rfl) (fun _ _ _ h => h) (Or.inl ⟨by rfl, ?_⟩) ?_ ?_
      rotate_left
      · intro w'
        go_simp
        with_reducible rfl
      rotate_left
      · simp only [Act.put, List.setIfInBounds_toArray, List.set_cons_zero, List.set_cons_succ, i64_w, i32_w]
        rfl
      refine take_ (i := 4) (N := some 43) (v := ?_) (a' := ?_) #[true, true, true, true, true, true, false, false] rfl rfl (by kernel_rfl) (fun _ _ _ h => h) (Or.inl ⟨by rfl, ?_⟩) hHeld ?_ ?_
      rotate_left
      · intro w' s0
        go_simp
        with_reducible rfl
      rotate_left
      · simp only [Act.put, List.setIfInBounds_toArray, List.set_cons_zero, List.set_cons_succ, i64_w, i32_w]
        rfl
      refine pure_ (i := 6) (N := some 3) (v := ?_) (a' := ?_) #[true, true, true, true, true, true, true, false] rfl rfl (by kernel_rfl) (fun _ _ _ h => h) (Or.inl ⟨by rfl, ?_⟩) ?_ ?_
      rotate_left
      · intro w'
        go_simp
        with_reducible rfl
      rotate_left
      · simp only [Act.put, List.setIfInBounds_toArray, List.set_cons_zero, List.set_cons_succ, i64_w, i32_w]
        rfl
      refine pure_ (i := 7) (N := some 4) (v := ?_) (a' := ?_) #[true, true, true, true, true, true, true, true] rfl rfl (by kernel_rfl) (fun _ _ _ h => h) (Or.inl ⟨by rfl, ?_⟩) ?_ ?_
      rotate_left
      · intro w'
        go_simp
        with_reducible rfl
      rotate_left
      · simp only [Act.put, List.setIfInBounds_toArray, List.set_cons_zero, List.set_cons_succ, i64_w, i32_w]
        rfl
      refine done_ (by kernel_rfl) ?_
      go_wp2_with fail
      go_ret3
      exact ⟨_, rfl, HLL.out, below_drew HBW.out⟩
end Go.Proofs.Ytjpjlloimemcfaa.Frm
