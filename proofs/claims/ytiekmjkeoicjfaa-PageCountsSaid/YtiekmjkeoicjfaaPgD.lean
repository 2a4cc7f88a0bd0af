/- The document's pool of pages: what lies, its methods; and same; no condition but those that stand in each. -/
import Derived.Test.YtiekmjkeoicjfaaPgP
namespace Go.Proofs.Ytiekmjkeoicjfaa.Pg
set_option linter.unusedVariables false
set_option linter.unusedSimpArgs false
open Go.RowKit Go.Proofs.YtiekmjkeoicjfaaW.PrintWords Go.Proofs.YtiekmjkeoicjfaaW.PrintLast Go.Proofs.YtiekmjkeoicjfaaW.PrintMore Go.Proofs.Ytiekmjkeoicjfaa.Lst Go.Proofs.Ytiekmjkeoicjfaa.Heap
attribute [local go_sem] max2_int min2_int max_two min_two max_three min_three max_four min_four
def IsD (w0 W : World) (g : Nat) (v : Value) (L : List Int) : Prop := W.heap[g]? = some (.cells #[v] 29 (0, 0)) ∧ Ls encI 3 W w0.heap.size v L ∧ w0.heap.size ≤ g
def PostD (w0 w : World) (g : Nat) (v : Value) (L' : List Int) (w' : World) : Prop := IsD w0 w' g v L' ∧ Below w0.heap.size w0 w' ∧ Kept w w' (Fo g v)
section
variable {w0 w W W' : World} {g : Nat} {v : Value} {L : List Int}
theorem IsD.c0 (h : IsD w0 W g v L) : W.cell? ⟨g, 0, none⟩ = some v := blk_cell h.1 0
theorem IsD.ls (h : IsD w0 W g v L) : Ls encI 3 W w0.heap.size v L := h.2.1
theorem IsD.lt (h : IsD w0 W g v L) : g < W.heap.size := blk_lt h.1
theorem IsD.below (h : IsD w0 W g v L) (hb : Below W.heap.size W W') : IsD w0 W' g v L := ⟨blk_below h.1 hb, h.2.1.below hb, h.2.2⟩
theorem IsD.drew (h : IsD w0 W g v L) (n : Nat) : IsD w0 (W.drewN n) g v L := h
theorem IsD.kept {S : Nat → Prop} (h : IsD w0 W g v L) (hk : Kept W W' S) (hn : ∀ k, Fo g v k → ¬ S k) : IsD w0 W' g v L :=
  ⟨(hk.2 g h.lt (hn g (.inl rfl))).trans h.1, ls_kept h.ls hk fun k e => hn k (.inr e), h.2.2⟩
theorem IsD.post (h : IsD w0 w g v L) (hB : Below w0.heap.size w0 w) : PostD w0 w g v L w := ⟨h, hB, Kept.refl _ _⟩
theorem PostD.put (h : PostD w0 w g v L W) {gh n c : Nat} (hv : v = .slice (some ⟨gh, 0, none⟩) n c) {k : Nat} (hk : k < L.length) (x : Int) : PostD w0 w g v (L.set k x) (W.setCell ⟨gh, k, none⟩ (.int .i64 x)) := by
  subst hv
  obtain ⟨h1, h2, h3⟩ := h
  have hb := h1.ls.own gh rfl
  have hne : g ≠ gh := by
    have := h1.ls.ne h1.1 (by decide)
    intro e; subst e; exact this rfl
  exact ⟨⟨blk_far h1.1 (p := ⟨gh, k, none⟩) hne _, ls_put h1.ls hk x, h1.2.2⟩, below_set h2 hb.1, h3.setCell (p := ⟨gh, k, none⟩) (.inl (.inr rfl)) _⟩
end
theorem dheld_c (w0 : World) (g : Nat) (v : Value) (L : List Int) (n r : Int) (hr : heldV L n = r) (w : World) (h : IsD w0 w g v L) : Calls Try.prog 17 #[.pointer (some ⟨g, 0, none⟩), .int .i64 n] w fun e w' => e = .returned (.int .i64 r) ∧ w = w' := by
  have hc := h.c0
  obtain ⟨A, c, rfl, _, _⟩ := h.ls.form
  unfold heldV at hr
  by_cases h0 : n < 0
  · rw [if_neg (by omega)] at hr
    subst hr
    clear h
    go_enter Try.func17, Try.ntmps17
    go_wp2_with fail
    go_ret
    exact ⟨rfl, rfl⟩
  · obtain ⟨k, rfl⟩ : ∃ k : Nat, n = k := ⟨n.toNat, by omega⟩
    by_cases h1 : k < L.length
    · rw [if_pos (by omega), Int.toNat_natCast] at hr
      obtain ⟨gb, rfl, _, _, hk, _⟩ := ls_at h.ls (at_get 0 h1)
      rw [hr] at hk
      have d1 : decide ((k : Int) < 0) = false := decide_eq_false (by omega)
      have d2 : decide ((L.length : Int) ≤ (k : Int)) = false := decide_eq_false (by omega)
      clear h hr h0
      go_enter Try.func17, Try.ntmps17
      go_wp2_with fail
      go_ret
      exact ⟨rfl, rfl⟩
    · rw [if_neg (by omega)] at hr
      subst hr
      have d1 : decide ((k : Int) < 0) = false := decide_eq_false (by omega)
      have d2 : decide ((L.length : Int) ≤ (k : Int)) = true := decide_eq_true (by omega)
      clear h h0
      go_enter Try.func17, Try.ntmps17
      go_wp2_with fail
      go_ret
      exact ⟨rfl, rfl⟩
def dholdV (L : List Int) (n : Int) : Int × List Int := if heldV L n = 0 then (1, L) else if 2147483647 ≤ heldV L n then (5, L) else (0, L.set n.toNat (heldV L n + 1))
def ddropV (L : List Int) (n : Int) : (Bool × Int) × List Int := if heldV L n = 0 then ((false, 1), L) else ((decide (heldV L n - 1 = 0), 0), L.set n.toNat (heldV L n - 1))
def firstZ : List Int → Nat → Option Nat
  | [], _ => none
  | x :: l, i => if x = 0 then some i else firstZ l (i + 1)
def dtakeV (L : List Int) : (Int × Int) × List Int := match firstZ L 0 with | none => ((0, 9), L) | some k => (((k : Int), 0), L.set k 1)
set_option maxHeartbeats 8000000 in
theorem dhold_c (w0 : World) (g : Nat) (v : Value) (L : List Int) (hbd : ∀ x ∈ L, 0 ≤ x ∧ x ≤ 2147483647) (n r : Int) (L' : List Int) (hr : dholdV L n = (r, L')) (w : World) (h : IsD w0 w g v L) (hB : Below w0.heap.size w0 w) : Calls Try.prog 11 #[.pointer (some ⟨g, 0, none⟩), .int .i64 n] w fun e w' => e = .returned (.int .i64 r) ∧ PostD w0 w g v L' w' := by
  have HP := Aside0.mk h
  have HPP := Aside0.mk (h.post hB)
  obtain ⟨x, hx⟩ : ∃ x, heldV L n = x := ⟨_, rfl⟩
  have HH := Aside0.mk hx
  unfold dholdV at hr
  rw [hx] at hr
  by_cases c0 : x = 0
  · rw [if_pos c0] at hr
    subst c0
    simp only [Prod.mk.injEq] at hr
    obtain ⟨rfl, rfl⟩ := hr
    clear h hx hB hbd
    go_enter Try.func11, Try.ntmps11
    go_wp2_with (first | (go_at_call 17; (with_reducible refine (dheld_c w0 g _ L _ 0 HH.out _ HP.out).mono ?_); rintro e w9 ⟨rfl, rfl⟩))
    go_ret
    exact ⟨rfl, HPP.out⟩
  · rw [if_neg c0] at hr
    obtain ⟨k, rfl, hk, hxk⟩ := held_in (by rw [hx]; exact c0)
    rw [hx] at hxk
    have bd := hbd _ (at_mem (z := 0) hk)
    rw [← hxk] at bd
    have hc := h.c0
    obtain ⟨A, c, rfl, _, _⟩ := h.ls.form
    obtain ⟨gb, rfl, _, _, kc, kf⟩ := ls_at h.ls (at_get 0 hk)
    rw [← hxk] at kc
    have kf := kf k
    have e0 : (x == 0) = false := by simpa using c0
    by_cases c1 : 2147483647 ≤ x
    · rw [if_pos c1] at hr
      have e1 : decide (2147483647 ≤ x) = true := decide_eq_true c1
      simp only [Prod.mk.injEq] at hr
      obtain ⟨rfl, rfl⟩ := hr
      clear h hx hB c0 c1 hxk hbd
      go_enter Try.func11, Try.ntmps11
      go_wp2_with (first | (go_at_call 17; (with_reducible refine (dheld_c w0 g _ L _ _ HH.out _ HP.out).mono ?_); rintro e w9 ⟨rfl, rfl⟩))
      go_ret
      exact ⟨rfl, HPP.out⟩
    · rw [if_neg c1] at hr
      simp only [Prod.mk.injEq] at hr
      obtain ⟨rfl, rfl⟩ := hr
      have e1 : decide (2147483647 ≤ x) = false := decide_eq_false c1
      have e2 : wrap64 (x + 1) = x + 1 := Base.w64 (by omega) (by omega)
      have HK := Aside0.mk hk
      clear h hx hB c0 c1 hxk hbd
      go_enter Try.func11, Try.ntmps11
      go_wp2_with (first | (go_at_call 17; (with_reducible refine (dheld_c w0 g _ L _ _ HH.out _ HP.out).mono ?_); rintro e w9 ⟨rfl, rfl⟩))
      go_ret
      exact ⟨rfl, by rw [Int.toNat_natCast]; exact HPP.out.put rfl HK.out (x + 1)⟩
set_option maxHeartbeats 8000000 in
theorem ddrop_c (w0 : World) (g : Nat) (v : Value) (L : List Int) (hbd : ∀ x ∈ L, 0 ≤ x ∧ x ≤ 2147483647) (n : Int) (r : Bool) (e0_ : Int) (L' : List Int) (hr : ddropV L n = ((r, e0_), L')) (w : World) (h : IsD w0 w g v L) (hB : Below w0.heap.size w0 w) : Calls Try.prog 13 #[.pointer (some ⟨g, 0, none⟩), .int .i64 n] w fun e w' => e = .returned (.tuple #[.bool r, .int .i64 e0_]) ∧ PostD w0 w g v L' w' := by
  have HP := Aside0.mk h
  have HPP := Aside0.mk (h.post hB)
  obtain ⟨x, hx⟩ : ∃ x, heldV L n = x := ⟨_, rfl⟩
  have HH := Aside0.mk hx
  unfold ddropV at hr
  rw [hx] at hr
  by_cases c0 : x = 0
  · rw [if_pos c0] at hr
    subst c0
    simp only [Prod.mk.injEq] at hr
    obtain ⟨⟨rfl, rfl⟩, rfl⟩ := hr
    clear h hx hB hbd
    go_enter Try.func13, Try.ntmps13
    go_wp2_with (first | (go_at_call 17; (with_reducible refine (dheld_c w0 g _ L _ 0 HH.out _ HP.out).mono ?_); rintro e w9 ⟨rfl, rfl⟩))
    go_ret2
    exact ⟨rfl, HPP.out⟩
  · rw [if_neg c0] at hr
    obtain ⟨k, rfl, hk, hxk⟩ := held_in (by rw [hx]; exact c0)
    rw [hx] at hxk
    have bd := hbd _ (at_mem (z := 0) hk)
    rw [← hxk] at bd
    have hc := h.c0
    obtain ⟨A, c, rfl, _, _⟩ := h.ls.form
    obtain ⟨gb, rfl, _, _, kc, kf⟩ := ls_at h.ls (at_get 0 hk)
    rw [← hxk] at kc
    have kf := kf k
    have e0 : (x == 0) = false := by simpa using c0
    have e2 : wrap64 (x - 1) = x - 1 := Base.w64 (by omega) (by omega)
    have hP1 := HPP.out.put rfl hk (x - 1)
    have HQ1 := Aside0.mk hP1
    have hc1 := hP1.1.c0
    obtain ⟨_, ee, _, _, kc1, _⟩ := ls_at hP1.1.ls (i := k) (x := x - 1) (by rw [List.getElem?_set_self hk])
    cases ee
    rw [Int.toNat_natCast] at hr
    simp only [Prod.mk.injEq] at hr
    obtain ⟨⟨rfl, rfl⟩, rfl⟩ := hr
    clear h hx hB c0 hxk hP1 hbd
    go_enter Try.func13, Try.ntmps13
    go_wp2_with (first | (go_at_call 17; (with_reducible refine (dheld_c w0 g _ L _ _ HH.out _ HP.out).mono ?_); rintro e w9 ⟨rfl, rfl⟩))
    go_ret2
    exact ⟨rfl, HQ1.out⟩
set_option maxHeartbeats 8000000 in
theorem dtake_c (w0 : World) (g : Nat) (v : Value) (L : List Int) (hl : L.length ≤ 256) (x e0_ : Int) (L' : List Int) (hr : dtakeV L = ((x, e0_), L')) (w : World) (h : IsD w0 w g v L) (hB : Below w0.heap.size w0 w) : Calls Try.prog 15 #[.pointer (some ⟨g, 0, none⟩)] w fun e w' => e = .returned (.tuple #[.int .i64 x, .int .i64 e0_]) ∧ PostD w0 w g v L' w' := by
  have HP := Aside0.mk h
  have HPP := Aside0.mk (h.post hB)
  have hc := h.c0
  obtain ⟨A, c, rfl, _, _⟩ := h.ls.form
  have HL := Aside0.mk hl
  have HR := Aside0.mk hr
  clear h hB hr hl
  go_enter Try.func15, Try.ntmps15
  go_wp2_with fail
  go_loop [4] (fun vi => ∃ i : Nat, vi = .int .i64 i ∧ Aside0 (i ≤ L.length) ∧ Aside0 (firstZ (L.drop i) i = firstZ L 0)) (fun vi => (L.length - intOf vi).toNat)
  case atStart => exact ⟨0, rfl, ⟨Nat.zero_le _⟩, ⟨rfl⟩⟩
  case round =>
    obtain ⟨i, rfl, HI, HQ⟩ := hrel
    have l1 := HI.out
    have l0 := HL.out
    by_cases hlt : i < L.length
    · obtain ⟨gb, rfl, _, _, kc, kf⟩ := ls_at HP.out.ls (at_get 0 hlt)
      have kf := kf i
      have hd : L.drop i = at_ 0 L i :: L.drop (i + 1) := by
        obtain ⟨hi, e⟩ := List.getElem?_eq_some_iff.1 (at_get 0 hlt)
        rw [List.drop_eq_getElem_cons hi, e]
      have q := HQ.out
      rw [hd, firstZ] at q
      obtain ⟨y, hy⟩ : ∃ y, at_ 0 L i = y := ⟨_, rfl⟩
      rw [hy] at q kc
      clear hd hy
      by_cases hz : y = 0
      · rw [if_pos hz] at q
        subst hz
        have hr := HR.out
        unfold dtakeV at hr
        rw [← q] at hr
        simp only [Prod.mk.injEq] at hr
        obtain ⟨⟨rfl, rfl⟩, rfl⟩ := hr
        have HK := Aside0.mk hlt
        clear q HR
        go_wp2_with fail
        go_ret2
        exact ⟨rfl, HPP.out.put rfl HK.out 1⟩
      · rw [if_neg hz] at q
        have e0 : (y == 0) = false := by simpa using hz
        have HQ2 := Aside0.mk q
        clear q hz
        go_wp2_with fail
        go_round
        case rel => exact ⟨i + 1, by go_num, ⟨by omega⟩, HQ2⟩
        case measure => simp [intOf]; omega
    · have q := HQ.out
      rw [List.drop_eq_nil_of_le (by omega), firstZ] at q
      have hr := HR.out
      unfold dtakeV at hr
      rw [← q] at hr
      simp only [Prod.mk.injEq] at hr
      obtain ⟨⟨rfl, rfl⟩, rfl⟩ := hr
      clear q HR
      go_wp2_with fail
      go_ret2
      exact ⟨rfl, HPP.out⟩
set_option maxHeartbeats 8000000 in
theorem dused_c (w0 : World) (g : Nat) (v : Value) (L : List Int) (h2 : L.length ≤ 256) (w : World) (h : IsD w0 w g v L) : Calls Try.prog 20 #[.pointer (some ⟨g, 0, none⟩)] w fun e w' => ∃ u, e = .returned u ∧ Ls encI 3 w' w.heap.size u (usedV L L.length) ∧ Below w.heap.size w w' := by
  have H2 := Aside0.mk h2
  have HP := Aside0.mk h
  have hc := h.c0
  obtain ⟨A, c, rfl, _, _⟩ := h.ls.form
  clear h h2
  go_enter Try.func20, Try.ntmps20
  go_wp2_with fail
  go_loopw [3, 4] (fun vo vi wr => ∃ (i : Nat), vi = .int .i64 i ∧ Aside0 (i ≤ L.length) ∧ Aside0 (Ls encI 3 wr w.heap.size vo (usedV L i)) ∧ Aside0 (Below w.heap.size w wr)) (fun _ vi _ => (L.length - intOf vi).toNat)
  case atStart => exact ⟨0, rfl, ⟨Nat.zero_le _⟩, ⟨Ls.nil _ _ _ _⟩, ⟨Below.refl _ _⟩⟩
  case round =>
    obtain ⟨i, rfl, HI, HLS, HBW⟩ := hrel
    obtain ⟨A2, c2, rfl, _, _⟩ := HLS.out.form
    have l1 := HI.out
    have l0 := H2.out
    have hc2 := (HP.out.below HBW.out).c0
    by_cases hlt : i < L.length
    · obtain ⟨gb, rfl, _, _, kc, _⟩ := ls_at (HP.out.below HBW.out).ls (at_get 0 hlt)
      obtain ⟨x, hx⟩ : ∃ x, at_ 0 L i = x := ⟨_, rfl⟩
      rw [hx] at kc
      have HS := Aside0.mk (used_succ L i)
      rw [hx] at HS
      have HLB := Aside0.mk (show (usedV L i).length ≤ 256 by have := used_len L i; omega)
      clear hx
      by_cases hk : 0 < x
      · have d1 : decide (0 < x) = true := decide_eq_true hk
        rw [if_pos hk] at HS
        clear hk
        go_wp2_with (first | (at_builtin; refine wpList_push rfl _ _ 27 3 _ 8 rfl Try.underlying27 info3 rfl w.heap.size _ _ (i : Int) rfl _ rfl (by simp) HLS.out HBW.out.size (by have := HLB.out; omega) (by decide) _ rfl ?_; intro v1 w1 h1 h2 h3; have HP1 := Aside0.mk h1; have HP2 := Aside0.mk h2; clear h1 h2 h3) | go_in)
        go_roundw
        case rel => exact ⟨i + 1, by go_num, ⟨by omega⟩, ⟨by rw [HS.out]; exact HP1.out⟩, ⟨pw_below_grown HBW.out _ HBW.out.size HP2.out (fun k hk => (HLS.out.own k hk).1)⟩⟩
        case measure => simp [intOf]; omega
      · have d1 : decide (0 < x) = false := decide_eq_false hk
        rw [if_neg hk, List.append_nil] at HS
        clear hk
        go_wp2_with fail
        go_roundw
        case rel => exact ⟨i + 1, by go_num, ⟨by omega⟩, ⟨by rw [HS.out]; exact HLS.out⟩, ⟨HBW.out⟩⟩
        case measure => simp [intOf]; omega
    · obtain rfl : i = L.length := by omega
      go_wp2_with fail
      go_ret
      exact ⟨_, rfl, HLS.out, HBW.out⟩
set_option maxHeartbeats 8000000 in
theorem same_c (b1 b2 : Nat) (u1 u2 : Value) (l : List Int) (hl : l.length ≤ 256) (w : World) (h1 : Ls encI 3 w b1 u1 l) (h2 : Ls encI 3 w b2 u2 l) : Calls Try.prog 18 #[u1, u2] w fun e w' => e = .returned (.bool true) ∧ ∃ n, World.drewN w n = w' := by
  obtain ⟨A1, c1, rfl, _, _⟩ := h1.form
  obtain ⟨A2, c2, rfl, _, _⟩ := h2.form
  have H1 := Aside0.mk h1; have H2 := Aside0.mk h2
  have HL := Aside0.mk hl
  clear h1 h2 hl
  go_enter Try.func18, Try.ntmps18
  go_wp2_with fail
  go_loopw [13] (fun vi wr => ∃ i n : Nat, vi = .int .i64 i ∧ Aside0 (i ≤ l.length) ∧ Aside0 (World.drewN w n = wr)) (fun vi _ => (l.length - intOf vi).toNat)
  case atStart => exact ⟨0, 0, rfl, ⟨Nat.zero_le _⟩, ⟨rfl⟩⟩
  case round =>
    obtain ⟨i, n, rfl, HI, HW⟩ := hrel
    have hw := HW.out
    subst hw
    have l1 := HI.out
    have l0 := HL.out
    by_cases hlt : i < l.length
    · obtain ⟨g1, rfl, _, _, k1, _⟩ := ls_at H1.out (at_get 0 hlt)
      obtain ⟨g2, rfl, _, _, k2, _⟩ := ls_at H2.out (at_get 0 hlt)
      obtain ⟨y, hy⟩ : ∃ y, at_ 0 l i = y := ⟨_, rfl⟩
      rw [hy] at k1 k2
      have fy : (y != y) = false := by simp
      clear hy
      go_wp2_with fail
      go_quiet (fail)
      go_wp2_with fail
      go_roundw
      case rel => exact ⟨i + 1, _, by go_num, ⟨by omega⟩, ⟨rfl⟩⟩
      case measure => simp [intOf]; omega
    · go_wp2_with fail
      go_ret
      exact ⟨rfl, _, rfl⟩
end Go.Proofs.Ytiekmjkeoicjfaa.Pg
