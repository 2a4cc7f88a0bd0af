/- The heap of free pages: what lies, its methods, and the library's Push and Pop at it; no condition but those that stand in each. -/
import Derived.Test.YtiekmjkeoicjfaaProg
import Derived.Test.YtiekmjkeoicjfaaLst2
import Derived.Test.YtiekmjkeoicjfaaHeap
import Derived.Deep.QuietTactic
import Derived.BigQuiet
import Derived.BigRegion
import Derived.RegionTactic
import Derived.Deep.RegionHeld3
import Derived.Deep.RegionLaw
import Derived.WalkSpells
import Derived.LoopTactic
import Derived.Deep.LoopGhost
import Derived.Shelf.Abstract
import Derived.OwnWalk
namespace Go.Proofs.Ytiekmjkeoicjfaa.Pg
set_option linter.unusedVariables false
set_option linter.unusedSimpArgs false
open Go.RowKit Go.Proofs.YtiekmjkeoicjfaaW.PrintWords Go.Proofs.YtiekmjkeoicjfaaW.PrintLast Go.Proofs.YtiekmjkeoicjfaaW.PrintMore Go.Proofs.Ytiekmjkeoicjfaa.Lst Go.Proofs.Ytiekmjkeoicjfaa.Heap
attribute [local go_sem] max2_int min2_int max_two min_two max_three min_three max_four min_four
def encI : En Int := ⟨fun x => [.int .i64 x], 1, fun _ => rfl, fun x u hu => by simp at hu; subst hu; rfl, by decide⟩
theorem info3 : (Try.prog.info? 3).map (fun i => (i.zero, i.size, i.bytes)) = some (some (.int .i64 0), 1, 8) := by kernel_rfl
/-- the pool's block, and the row of the free pages -/
def IsF (w0 W : World) (g : Nat) (vh v : Value) (l : List Int) : Prop := W.heap[g]? = some (.cells #[vh, v] 53 (0, 0)) ∧ Ls encI 3 W w0.heap.size v l
def Fo (g : Nat) (v : Value) (i : Nat) : Prop := i = g ∨ v.ownBlock = some i
section
variable {b0 : Nat} {w0 W W' : World} {g : Nat} {vh v : Value} {l : List Int}
theorem ls_at {A : Option Addr} {n c : Nat} (h : Ls encI 3 W b0 (.slice A n c) l) {i : Nat} {x : Int} (hx : l[i]? = some x) : ∃ g, A = some ⟨g, 0, none⟩ ∧ b0 ≤ g ∧ g < W.heap.size ∧ W.cell? ⟨g, i, none⟩ = some (.int .i64 x) ∧ (∀ k, W.frozen? ⟨g, k, none⟩ = false) := by
  obtain ⟨g, h1, h2, h3, h4, h5, _⟩ := h.at hx
  refine ⟨g, h1, h2, h3, ?_, h5⟩
  have := h4 0 (.int .i64 x) rfl
  rw [show i * encI.sz + 0 = i from Nat.mul_one i] at this
  exact this
theorem ls_put {gb n c : Nat} (h : Ls encI 3 W b0 (.slice (some ⟨gb, 0, none⟩) n c) l) {i : Nat} (hi : i < l.length) (x : Int) : Ls encI 3 (W.setCell ⟨gb, i, none⟩ (.int .i64 x)) b0 (.slice (some ⟨gb, 0, none⟩) n c) (l.set i x) := by
  have := h.put (i := i) (j := 0) (x' := x) (u := .int .i64 x) (List.getElem?_eq_getElem hi) (by decide) rfl
  rw [show i * encI.sz + 0 = i from Nat.mul_one i] at this
  exact this
theorem ls_cut {gb n c : Nat} (h : Ls encI 3 W b0 (.slice (some ⟨gb, 0, none⟩) n c) l) {k : Nat} (hk : k ≤ l.length) : Ls encI 3 W b0 (.slice (some ⟨gb, 0, none⟩) k c) (l.take k) := by
  obtain ⟨h1, h2⟩ := h
  have lk : (l.take k).length = k := by rw [List.length_take]; omega
  refine ⟨flat_len encI _, ?_⟩
  rw [lk]
  rcases h2 with ⟨h2, _⟩ | ⟨g', cap, cur, hv, hb, hg, hc, hm, hs, ht⟩
  · cases h2
  · injection hv with hA hn hcap
    injection hA with hA
    injection hA with hA
    subst hA
    refine .inr ⟨gb, cap, cur, by rw [hcap], hb, hg, by omega, hm, hs, ?_⟩
    have e1 : l.flatMap encI.enc = (l.take k).flatMap encI.enc ++ (l.drop k).flatMap encI.enc := by rw [← List.flatMap_append, List.take_append_drop]
    rw [e1] at ht
    have e2 : ((l.take k).flatMap encI.enc).length = k * encI.sz := by rw [flat_len, lk]
    have := congrArg (List.take (k * encI.sz)) ht
    rw [List.take_take, List.take_left' e2, Nat.min_eq_left (Nat.mul_le_mul_right _ hk)] at this
    exact this
theorem IsF.c1 (h : IsF w0 W g vh v l) : W.cell? ⟨g, 1, none⟩ = some v := blk_cell h.1 1
theorem IsF.free (h : IsF w0 W g vh v l) (k : Nat) : W.frozen? ⟨g, k, none⟩ = false := blk_frozen h.1 k
theorem IsF.ls (h : IsF w0 W g vh v l) : Ls encI 3 W w0.heap.size v l := h.2
theorem IsF.ne (h : IsF w0 W g vh v l) : some g ≠ v.ownBlock := h.2.ne h.1 (by decide)
theorem IsF.lt (h : IsF w0 W g vh v l) : g < W.heap.size := blk_lt h.1
theorem IsF.below (h : IsF w0 W g vh v l) (hb : Below W.heap.size W W') : IsF w0 W' g vh v l := ⟨blk_below h.1 hb, h.2.below hb⟩
theorem IsF.drew (h : IsF w0 W g vh v l) (n : Nat) : IsF w0 (W.drewN n) g vh v l := h
end
/-- the row is turned, or grown; not the pool's block -/
structure IsG (W : World) (g : Nat) (vh v : Value) : Prop where
  blk : W.heap[g]? = some (.cells #[vh, v] 53 (0, 0))
theorem IsG.c1 {W : World} {g : Nat} {vh v : Value} (h : IsG W g vh v) : W.cell? ⟨g, 1, none⟩ = some v := blk_cell h.blk 1
theorem IsG.free {W : World} {g : Nat} {vh v : Value} (h : IsG W g vh v) (k : Nat) : W.frozen? ⟨g, k, none⟩ = false := blk_frozen h.blk k
theorem IsF.grown_ {w0 W W' : World} {g : Nat} {vh v : Value} {l : List Int} (h : IsF w0 W g vh v l) (hg : W.grownBy W' v.ownBlock) : IsG W' g vh v := ⟨blk_grown h.1 hg h.ne⟩
theorem ta_run (x : Int) (w : World) : (Instr.typeAssert (.iface 3 (.int .i64 x)) 20 3 true).run Try.prog w = .ok (.tuple #[.int .i64 x, .bool true]) w := by kernel_rfl
/-! ### its methods -/
theorem len_c (w0 : World) (g : Nat) (vh v : Value) (l : List Int) (n : Nat) (hn : l.length = n) (w : World) (h : IsF w0 w g vh v l) : Calls Try.prog 44 #[.pointer (some ⟨g, 1, none⟩)] w fun e w' => e = .returned (.int .i64 (n : Int)) ∧ w = w' := by
  have hc := h.c1
  obtain ⟨A, c, rfl, _, _⟩ := h.ls.form
  subst hn
  clear h
  go_enter Try.func44, Try.ntmps44
  go_wp2_with fail
  go_ret
  exact ⟨rfl, rfl⟩
def ltI (a b : Int) : Bool := decide (a < b)
theorem ltI_ord : Ord ltI := ⟨fun a b h => by unfold ltI at *; simp at *; omega, fun a b c h1 h2 => by unfold ltI at *; simp at *; omega⟩
theorem less_c (w0 : World) (g : Nat) (vh v : Value) (l : List Int) (i j : Nat) (a b : Int) (ha : a = (i : Int)) (hb : b = (j : Int)) (hi : i < l.length) (hj : j < l.length) (r : Bool) (hr : ltI (at_ 0 l i) (at_ 0 l j) = r) (w : World) (h : IsF w0 w g vh v l) : Calls Try.prog 45 #[.pointer (some ⟨g, 1, none⟩), .int .i64 a, .int .i64 b] w fun e w' => e = .returned (.bool r) ∧ ∃ n, World.drewN w n = w' := by
  subst ha hb
  have hc := h.c1
  obtain ⟨A, c, rfl, hac, _⟩ := h.ls.form
  obtain ⟨gb, rfl, _, _, ki, _⟩ := ls_at h.ls (at_get 0 hi)
  obtain ⟨gb', e, _, _, kj, _⟩ := ls_at h.ls (at_get 0 hj)
  cases e
  unfold ltI at hr
  clear h
  go_enter Try.func45, Try.ntmps45
  go_wp2_with fail
  go_quiet (fail)
  go_wp2_with fail
  go_ret
  exact ⟨rfl, _, rfl⟩
def PostF (w0 w : World) (g : Nat) (vh v : Value) (l' : List Int) (w' : World) : Prop := ∃ v', IsF w0 w' g vh v' l' ∧ Below w0.heap.size w0 w' ∧ Kept w w' (Fo g v) ∧ (v'.ownBlock = v.ownBlock ∨ ∃ b, v'.ownBlock = some b ∧ w.heap.size ≤ b)
theorem PostF.refl {w0 w : World} {g : Nat} {vh v : Value} {l : List Int} (h : IsF w0 w g vh v l) (hB : Below w0.heap.size w0 w) : PostF w0 w g vh v l w := ⟨v, h, hB, Kept.refl _ _, .inl rfl⟩
theorem PostF.trans {w0 w w1 w2 : World} {g : Nat} {vh v v1 : Value} {l2 : List Int} (hk : Kept w w1 (Fo g v)) (ho : v1.ownBlock = v.ownBlock ∨ ∃ b, v1.ownBlock = some b ∧ w.heap.size ≤ b) (h : PostF w0 w1 g vh v1 l2 w2) : PostF w0 w g vh v l2 w2 := by
  obtain ⟨v2, h1, h2, h3, h4⟩ := h
  refine ⟨v2, h1, h2, hk.then_ h3 fun k hk' => ?_, ?_⟩
  · rcases hk' with rfl | e
    · exact .inl (.inl rfl)
    · rcases ho with ho | ⟨b, ho, hb⟩
      · exact .inl (.inr (ho ▸ e))
      · rw [ho] at e; cases e; exact .inr hb
  · rcases h4 with h4 | ⟨b, h4, hb'⟩
    · rw [h4]; exact ho
    · exact .inr ⟨b, h4, Nat.le_trans hk.1 hb'⟩
set_option maxHeartbeats 8000000 in
theorem swap_c (w0 : World) (g : Nat) (vh v : Value) (l : List Int) (i j : Nat) (a b : Int) (ha : a = (i : Int)) (hb : b = (j : Int)) (hi : i < l.length) (hj : j < l.length) (l' : List Int) (hl : sw 0 l i j = l') (w : World) (h : IsF w0 w g vh v l) (hB : Below w0.heap.size w0 w) : Calls Try.prog 48 #[.pointer (some ⟨g, 1, none⟩), .int .i64 a, .int .i64 b] w fun e w' => e = .returned (.tuple #[]) ∧ PostF w0 w g vh v l' w' := by
  subst ha hb
  have hc := h.c1
  obtain ⟨A, c, rfl, hac, _⟩ := h.ls.form
  obtain ⟨gb, rfl, hgb, _, ki, hf⟩ := ls_at h.ls (at_get 0 hi)
  obtain ⟨gb', e, _, _, kj, _⟩ := ls_at h.ls (at_get 0 hj)
  cases e
  have fi := hf i; have fj := hf j
  have set_get : ∀ (a b : Nat), a < l.length → b < l.length → (l.set a (at_ 0 l b))[b]? = some (at_ 0 l b) := fun a b ha hb => by
    rw [List.getElem?_set]
    by_cases e : a = b
    · rw [if_pos e, if_pos ha]
    · rw [if_neg e, at_get 0 hb]
  have p1 := ls_put h.ls hi (at_ 0 l j)
  have p2 := ls_put h.ls hj (at_ 0 l i)
  obtain ⟨_, e1, _, _, q1, _⟩ := ls_at p1 (set_get i j hi hj)
  cases e1
  obtain ⟨_, e2, _, _, q2, _⟩ := ls_at p2 (set_get j i hj hi)
  cases e2
  have H := Aside0.mk h
  have HL := Aside0.mk hl
  have HGB := Aside0.mk hgb
  have P1 := Aside0.mk p1; have P2 := Aside0.mk p2
  have HB := Aside0.mk hB
  clear h hf hl hB p1 p2 set_get
  go_enter Try.func48, Try.ntmps48
  go_wp2_with fail
  go_region
  go_wp2_with fail
  first | go_end0 | ((try simp only [Exit.inBlock, Exit.then]); refine bodyPost_ret (results_none rfl _ _ _) rfl ?_)
  have hne : g ≠ gb := by have := H.out.ne; simpa [Value.ownBlock] using this
  have q := ls_put (i := j) P1.out (by rw [List.length_set]; exact hj) (at_ 0 l i)
  rw [← HL.out]
  exact ⟨rfl, _, ⟨blk_drew (blk_far (blk_far H.out.1 (p := ⟨gb, i, none⟩) hne _) (p := ⟨gb, j, none⟩) hne _), q⟩, below_drew (below_set (below_set HB.out HGB.out) HGB.out), (((Kept.refl w _).setCell (p := ⟨gb, i, none⟩) (.inl (.inr rfl)) _).setCell (p := ⟨gb, j, none⟩) (.inl (.inr rfl)) _).drew, .inl rfl⟩
set_option maxHeartbeats 4000000 in
theorem hpop_c (w0 : World) (g : Nat) (vh v : Value) (l : List Int) (n : Nat) (hn : l.length = n + 1) (x : Int) (hx : at_ 0 l n = x) (w : World) (h : IsF w0 w g vh v l) (hB : Below w0.heap.size w0 w) (hg : w0.heap.size ≤ g) : Calls Try.prog 46 #[.pointer (some ⟨g, 1, none⟩)] w fun e w' => e = .returned (.iface 3 (.int .i64 x)) ∧ PostF w0 w g vh v (l.take n) w' := by
  have hc := h.c1
  have hf := h.free 1
  obtain ⟨A, c, rfl, hac, hm⟩ := h.ls.form
  obtain ⟨gb, rfl, hgb, _, ki, _⟩ := ls_at h.ls (at_get 0 (show n < l.length by omega))
  rw [hx] at ki
  have H := Aside0.mk h
  have HN := Aside0.mk hn
  have HG := Aside0.mk hg
  have hm2 : n + 1 ≤ maxLen := by rw [← hn]; exact hm
  unfold maxLen at hm2
  have e1 : wrap64 ((n : Int) + 1 - 1) = n := by rw [show (n : Int) + 1 - 1 = n by omega]; exact Base.w64 (by omega) (by omega)
  have hnc : n ≤ c := by omega
  rw [hn] at hc
  have HB := Aside0.mk hB
  clear h hx hg hm hn hB
  go_enter Try.func46, Try.ntmps46
  go_wp2_with fail
  go_ret
  have q := ls_cut H.out.ls (show n ≤ l.length by have := HN.out; omega)
  exact ⟨rfl, _, ⟨blk_set H.out.1 1 _, q.far (p := ⟨g, 1, none⟩) (by have := H.out.ne; exact this) _⟩, below_set HB.out HG.out, (Kept.refl w _).setCell (p := ⟨g, 1, none⟩) (.inl (.inl rfl)) _, .inl rfl⟩
set_option maxHeartbeats 4000000 in
theorem hpush_c (w0 : World) (g : Nat) (vh v : Value) (l : List Int) (x : Int) (hl : l.length ≤ 1000000) (w : World) (h : IsF w0 w g vh v l) (hB : Below w0.heap.size w0 w) (hg : w0.heap.size ≤ g) : Calls Try.prog 47 #[.pointer (some ⟨g, 1, none⟩), .iface 3 (.int .i64 x)] w fun e w' => e = .returned (.tuple #[]) ∧ PostF w0 w g vh v (l ++ [x]) w' := by
  have hc := h.c1
  obtain ⟨A, c, rfl, hac, hm⟩ := h.ls.form
  have H := Aside0.mk h
  have HG := Aside0.mk hg
  have HB := Aside0.mk hB
  have HL := Aside0.mk hl
  have HLS := Aside0.mk h.ls
  clear h hg hB hm hl
  have hta := ta_run
  go_enter Try.func47, Try.ntmps47
  go_wp2_with (first | (at_builtin; refine wpList_push rfl _ _ 51 3 _ 8 rfl Try.underlying51 info3 rfl w0.heap.size (.slice A l.length c) l x rfl _ rfl rfl HLS.out HB.out.size (by have := HL.out; omega) (by decide) _ rfl ?_; intro v1 w1 h1 h2 h3; have H1 := Aside0.mk h1; have H2 := Aside0.mk h2; have H3 := Aside0.mk h3; clear h1 h2 h3; obtain ⟨A1, c1, rfl, _, _⟩ := H1.out.form; have c1_ := (H.out.grown_ H2.out).c1; have f1_ := (H.out.grown_ H2.out).free 1) | go_in)
  first | go_end0 | ((try simp only [Exit.inBlock, Exit.then]); refine bodyPost_ret (results_none rfl _ _ _) rfl ?_)
  have q := H1.out
  rw [List.length_append, List.length_singleton] at q
  have b := (H.out.grown_ H2.out).blk
  exact ⟨rfl, _, ⟨blk_set b 1 _, q.far (p := ⟨g, 1, none⟩) (q.ne b (by decide)) _⟩, below_set (pw_below_grown HB.out _ HB.out.size H2.out (fun k hk => (HLS.out.own k hk).1)) HG.out, (Kept.of_grown H2.out (Kept.refl w (Fo g _)) (fun k hk => .inl (.inr hk))).setCell (p := ⟨g, 1, none⟩) (.inl (.inl rfl)) _, by have h3 := H3.out; rw [List.length_append, List.length_singleton] at h3; exact h3⟩
/-! ### sifting -/
theorem m_len (p : Option Addr) (w : World) : (method 185 58 (.pointer p) "Len").run Try.prog w = .ok (44, .pointer p) w := by kernel_rfl
theorem m_less (p : Option Addr) (w : World) : (method 185 58 (.pointer p) "Less").run Try.prog w = .ok (45, .pointer p) w := by kernel_rfl
theorem m_pop (p : Option Addr) (w : World) : (method 185 58 (.pointer p) "Pop").run Try.prog w = .ok (46, .pointer p) w := by kernel_rfl
theorem m_push (p : Option Addr) (w : World) : (method 185 58 (.pointer p) "Push").run Try.prog w = .ok (47, .pointer p) w := by kernel_rfl
theorem m_swap (p : Option Addr) (w : World) : (method 185 58 (.pointer p) "Swap").run Try.prog w = .ok (48, .pointer p) w := by kernel_rfl
def ptr (g : Nat) : Value := .iface 58 (.pointer (some ⟨g, 1, none⟩))
set_option maxHeartbeats 8000000 in
theorem down_c (w0 : World) (g : Nat) (vh v : Value) (l : List Int) (n : Nat) (hn : n ≤ l.length) (hl : l.length ≤ 1000000) (hl0 : 0 < l.length) (l' : List Int) (hl' : downV 0 ltI n n l 0 = l') (w : World) (h : IsF w0 w g vh v l) (hB : Below w0.heap.size w0 w) :
    Calls Try.prog 26 #[.iface 58 (.pointer (some ⟨g, 1, none⟩)), .int .i64 0, .int .i64 (n : Int)] w fun e w' => (∃ z, e = .returned z) ∧ PostF w0 w g vh v l' w' := by
  have HN := Aside0.mk hn; have HL := Aside0.mk hl; have HL0 := Aside0.mk hl0; have HT := Aside0.mk hl'
  have HP := Aside0.mk (PostF.refl h hB)
  clear hn hl hl0 hl' h hB
  have hml := m_less; have hms := m_swap
  go_enter Try.func26, Try.ntmps26
  go_wp2_with fail
  go_loopw [7] (fun vi wr => ∃ (i f : Nat) (l1 : List Int), vi = .int .i64 i ∧ Aside0 (i < l.length ∧ n ≤ i + f ∧ l1.length = l.length) ∧ Aside0 (downV 0 ltI n f l1 i = l') ∧ Aside0 (PostF w0 w g vh v l1 wr)) (fun vi _ => (n - intOf vi).toNat)
  case atStart => exact ⟨0, n, l, rfl, ⟨HL0.out, by omega, rfl⟩, HT, HP⟩
  case round =>
    obtain ⟨i, f, l1, rfl, HI, HQ, HP1⟩ := hrel
    obtain ⟨v1, hf1, hb1, hk1, ho1⟩ := HP1.out
    have i1 := HI.out.1; have i2 := HI.out.2.1; have i3 := HI.out.2.2
    have n1 := HN.out; have n2 := HL.out
    have HF := Aside0.mk hf1; have HB := Aside0.mk hb1; have HK := Aside0.mk hk1; have HO := Aside0.mk ho1
    clear hf1 hb1 hk1 ho1
    have e1 : wrap64 (2 * (i : Int)) = 2 * i := Base.w64 (by omega) (by omega)
    have e2 : wrap64 (2 * (i : Int) + 1) = 2 * i + 1 := Base.w64 (by omega) (by omega)
    have e3 : wrap64 (2 * (i : Int) + 1 + 1) = 2 * i + 1 + 1 := Base.w64 (by omega) (by omega)
    by_cases h1 : 2 * i + 1 < n
    · obtain ⟨f, rfl⟩ : ∃ f', f = f' + 1 := ⟨f - 1, by omega⟩
      have q := HQ.out
      unfold downV at q
      rw [if_pos h1] at q
      dsimp only at q
      have d1 : decide ((n : Int) ≤ 2 * (i : Int) + 1) = false := by simp; omega
      have d2 : decide (2 * (i : Int) + 1 < 0) = false := by simp; omega
      by_cases h2 : 2 * i + 2 < n
      · have d3 : decide (2 * (i : Int) + 1 + 1 < (n : Int)) = true := by simp; omega
        cases r1 : ltI (at_ 0 l1 (2 * i + 2)) (at_ 0 l1 (2 * i + 1))
        · have hj : (if 2 * i + 2 < n ∧ ltI (at_ 0 l1 (2 * i + 2)) (at_ 0 l1 (2 * i + 1)) = true then 2 * i + 2 else 2 * i + 1) = 2 * i + 1 := if_neg (fun e => by rw [r1] at e; simp at e)
          rw [hj] at q
          cases r2 : ltI (at_ 0 l1 (2 * i + 1)) (at_ 0 l1 i)
          · try clear hj
            rw [r2] at q
            simp only [Bool.false_eq_true, if_false] at q
            subst q
            clear HQ
            go_wp2_with (first | (go_at_call 45; (with_reducible refine (less_c w0 g vh v1 l1 (2 * i + 2) (2 * i + 1) _ _ (by omega) (by omega) (by omega) (by omega) false r1 _ (by first | exact HF.out | exact HF.out.drew _)).mono ?_); rintro e w9 ⟨rfl, n9, rfl⟩) | (go_at_call 45; (with_reducible refine (less_c w0 g vh v1 l1 (2 * i + 1) (i) _ _ (by omega) (by omega) (by omega) (by omega) false r2 _ (by first | exact HF.out | exact HF.out.drew _)).mono ?_); rintro e w9 ⟨rfl, n9, rfl⟩))
            go_ret
            exact ⟨⟨_, rfl⟩, v1, by first | exact HF.out | exact HF.out.drew _, by first | exact HB.out | exact pw_below_drewN HB.out _, HK.out.drewN _, HO.out⟩
          · try clear hj
            rw [r2] at q
            simp only [if_true] at q
            have HQ2 := Aside0.mk q
            clear q HQ
            go_wp2_with (first | (go_at_call 45; (with_reducible refine (less_c w0 g vh v1 l1 (2 * i + 2) (2 * i + 1) _ _ (by omega) (by omega) (by omega) (by omega) false r1 _ (by first | exact HF.out | exact HF.out.drew _)).mono ?_); rintro e w9 ⟨rfl, n9, rfl⟩) | (go_at_call 45; (with_reducible refine (less_c w0 g vh v1 l1 (2 * i + 1) (i) _ _ (by omega) (by omega) (by omega) (by omega) true r2 _ (by first | exact HF.out | exact HF.out.drew _)).mono ?_); rintro e w9 ⟨rfl, n9, rfl⟩) | (go_at_call 48; (with_reducible refine (swap_c w0 g vh v1 l1 (i) (2 * i + 1) _ _ (by omega) (by omega) (by omega) (by omega) _ rfl _ (by first | exact HF.out | exact HF.out.drew _) (by first | exact HB.out | exact pw_below_drewN HB.out _)).mono ?_); rintro e w9 ⟨rfl, hp⟩; have HP2 := Aside0.mk (PostF.trans (HK.out.drewN _) HO.out hp); clear hp))
            go_roundw
            case rel => exact ⟨2 * i + 1, f, _, by go_num, ⟨by omega, by omega, by rw [sw_len]; exact i3⟩, HQ2, HP2⟩
            case measure => simp [intOf]; omega
        · have hj : (if 2 * i + 2 < n ∧ ltI (at_ 0 l1 (2 * i + 2)) (at_ 0 l1 (2 * i + 1)) = true then 2 * i + 2 else 2 * i + 1) = 2 * i + 2 := if_pos ⟨h2, r1⟩
          rw [hj] at q
          cases r2 : ltI (at_ 0 l1 (2 * i + 2)) (at_ 0 l1 i)
          · try clear hj
            rw [r2] at q
            simp only [Bool.false_eq_true, if_false] at q
            subst q
            clear HQ
            go_wp2_with (first | (go_at_call 45; (with_reducible refine (less_c w0 g vh v1 l1 (2 * i + 2) (2 * i + 1) _ _ (by omega) (by omega) (by omega) (by omega) true r1 _ (by first | exact HF.out | exact HF.out.drew _)).mono ?_); rintro e w9 ⟨rfl, n9, rfl⟩) | (go_at_call 45; (with_reducible refine (less_c w0 g vh v1 l1 (2 * i + 2) (i) _ _ (by omega) (by omega) (by omega) (by omega) false r2 _ (by first | exact HF.out | exact HF.out.drew _)).mono ?_); rintro e w9 ⟨rfl, n9, rfl⟩))
            go_ret
            exact ⟨⟨_, rfl⟩, v1, by first | exact HF.out | exact HF.out.drew _, by first | exact HB.out | exact pw_below_drewN HB.out _, HK.out.drewN _, HO.out⟩
          · try clear hj
            rw [r2] at q
            simp only [if_true] at q
            have HQ2 := Aside0.mk q
            clear q HQ
            go_wp2_with (first | (go_at_call 45; (with_reducible refine (less_c w0 g vh v1 l1 (2 * i + 2) (2 * i + 1) _ _ (by omega) (by omega) (by omega) (by omega) true r1 _ (by first | exact HF.out | exact HF.out.drew _)).mono ?_); rintro e w9 ⟨rfl, n9, rfl⟩) | (go_at_call 45; (with_reducible refine (less_c w0 g vh v1 l1 (2 * i + 2) (i) _ _ (by omega) (by omega) (by omega) (by omega) true r2 _ (by first | exact HF.out | exact HF.out.drew _)).mono ?_); rintro e w9 ⟨rfl, n9, rfl⟩) | (go_at_call 48; (with_reducible refine (swap_c w0 g vh v1 l1 (i) (2 * i + 2) _ _ (by omega) (by omega) (by omega) (by omega) _ rfl _ (by first | exact HF.out | exact HF.out.drew _) (by first | exact HB.out | exact pw_below_drewN HB.out _)).mono ?_); rintro e w9 ⟨rfl, hp⟩; have HP2 := Aside0.mk (PostF.trans (HK.out.drewN _) HO.out hp); clear hp))
            go_roundw
            case rel => exact ⟨2 * i + 2, f, _, by go_num, ⟨by omega, by omega, by rw [sw_len]; exact i3⟩, HQ2, HP2⟩
            case measure => simp [intOf]; omega
      · have d3 : decide (2 * (i : Int) + 1 + 1 < (n : Int)) = false := by simp; omega
        have hj : (if 2 * i + 2 < n ∧ ltI (at_ 0 l1 (2 * i + 2)) (at_ 0 l1 (2 * i + 1)) = true then 2 * i + 2 else 2 * i + 1) = 2 * i + 1 := if_neg (fun e => h2 e.1)
        rw [hj] at q
        cases r2 : ltI (at_ 0 l1 (2 * i + 1)) (at_ 0 l1 i)
        · try clear hj
          rw [r2] at q
          simp only [Bool.false_eq_true, if_false] at q
          subst q
          clear HQ
          go_wp2_with (first | (go_at_call 45; (with_reducible refine (less_c w0 g vh v1 l1 (2 * i + 1) (i) _ _ (by omega) (by omega) (by omega) (by omega) false r2 _ (by first | exact HF.out | exact HF.out.drew _)).mono ?_); rintro e w9 ⟨rfl, n9, rfl⟩))
          go_ret
          exact ⟨⟨_, rfl⟩, v1, by first | exact HF.out | exact HF.out.drew _, by first | exact HB.out | exact pw_below_drewN HB.out _, HK.out.drewN _, HO.out⟩
        · try clear hj
          rw [r2] at q
          simp only [if_true] at q
          have HQ2 := Aside0.mk q
          clear q HQ
          go_wp2_with (first | (go_at_call 45; (with_reducible refine (less_c w0 g vh v1 l1 (2 * i + 1) (i) _ _ (by omega) (by omega) (by omega) (by omega) true r2 _ (by first | exact HF.out | exact HF.out.drew _)).mono ?_); rintro e w9 ⟨rfl, n9, rfl⟩) | (go_at_call 48; (with_reducible refine (swap_c w0 g vh v1 l1 (i) (2 * i + 1) _ _ (by omega) (by omega) (by omega) (by omega) _ rfl _ (by first | exact HF.out | exact HF.out.drew _) (by first | exact HB.out | exact pw_below_drewN HB.out _)).mono ?_); rintro e w9 ⟨rfl, hp⟩; have HP2 := Aside0.mk (PostF.trans (HK.out.drewN _) HO.out hp); clear hp))
          go_roundw
          case rel => exact ⟨2 * i + 1, f, _, by go_num, ⟨by omega, by omega, by rw [sw_len]; exact i3⟩, HQ2, HP2⟩
          case measure => simp [intOf]; omega
    · have q : l1 = l' := by
        have q := HQ.out
        cases f with
        | zero => exact q
        | succ f => unfold downV at q; rw [if_neg h1] at q; exact q
      subst q
      go_wp2_with fail
      go_ret
      exact ⟨⟨_, rfl⟩, HP1.out⟩
set_option maxHeartbeats 8000000 in
theorem up_c (w0 : World) (g : Nat) (vh v : Value) (l : List Int) (j0 : Nat) (hj : j0 < l.length) (hl : l.length ≤ 1000000) (l' : List Int) (hl' : upV 0 ltI j0 l j0 = l') (a : Int) (ha : a = (j0 : Int)) (w : World) (h : IsF w0 w g vh v l) (hB : Below w0.heap.size w0 w) :
    Calls Try.prog 25 #[.iface 58 (.pointer (some ⟨g, 1, none⟩)), .int .i64 a] w fun e w' => e = .returned (.tuple #[]) ∧ PostF w0 w g vh v l' w' := by
  subst ha
  have HL := Aside0.mk hl; have HL0 := Aside0.mk hj; have HT := Aside0.mk hl'
  have HP := Aside0.mk (PostF.refl h hB)
  clear hl hj hl' h hB
  have hml := m_less; have hms := m_swap
  go_enter Try.func25, Try.ntmps25
  go_wp2_with fail
  go_loopw [1] (fun vj wr => ∃ (j f : Nat) (l1 : List Int), vj = .int .i64 j ∧ Aside0 (j < l.length ∧ j ≤ f ∧ l1.length = l.length) ∧ Aside0 (upV 0 ltI f l1 j = l') ∧ Aside0 (PostF w0 w g vh v l1 wr)) (fun vj _ => (intOf vj).toNat)
  case atStart => exact ⟨j0, j0, l, rfl, ⟨HL0.out, Nat.le_refl _, rfl⟩, HT, HP⟩
  case round =>
    obtain ⟨j, f, l1, rfl, HI, HQ, HP1⟩ := hrel
    obtain ⟨v1, hf1, hb1, hk1, ho1⟩ := HP1.out
    have i1 := HI.out.1; have i2 := HI.out.2.1; have i3 := HI.out.2.2
    have n2 := HL.out
    have HF := Aside0.mk hf1; have HB := Aside0.mk hb1; have HK := Aside0.mk hk1; have HO := Aside0.mk ho1
    clear hf1 hb1 hk1 ho1
    cases j with
    | zero =>
      have q : l1 = l' := by
        have q := HQ.out
        cases f with
        | zero => exact q
        | succ f => unfold upV at q; rw [if_pos rfl] at q; exact q
      subst q
      have e0 : (((0 : Nat) : Int)) = 0 := rfl
      rw [e0]
      go_wp2_with fail
      go_end0
      exact ⟨rfl, HP1.out⟩
    | succ k =>
      obtain ⟨f, rfl⟩ : ∃ f', f = f' + 1 := ⟨f - 1, by omega⟩
      have ek : (((k + 1 : Nat)) : Int) = (k : Int) + 1 := by omega
      rw [ek]
      have q := HQ.out
      unfold upV at q
      rw [if_neg (Nat.succ_ne_zero k), show k + 1 - 1 = k by omega] at q
      obtain ⟨i, hi⟩ : ∃ i, k / 2 = i := ⟨_, rfl⟩
      rw [hi] at q
      have e1 : wrap64 ((k : Int) + 1 - 1) = k := by rw [show (k : Int) + 1 - 1 = k by omega]; exact Base.w64 (by omega) (by omega)
      have e2 : (k : Int).tdiv 2 = (i : Int) := by rw [← hi]; rfl
      have e3 : wrap64 ((i : Nat) : Int) = i := Base.w64 (by omega) (by omega)
      have e4 : ((i : Int) == (k : Int) + 1) = false := by simp; omega
      have e5 : wrap64 ((k : Int).tdiv 2) = (i : Int) := by rw [e2, e3]
      cases r2 : ltI (at_ 0 l1 (k + 1)) (at_ 0 l1 i)
      · rw [r2] at q
        simp only [Bool.false_eq_true, if_false] at q
        subst q
        clear HQ
        go_wp2_with (first | (go_at_call 45; (with_reducible refine (less_c w0 g vh v1 l1 (k + 1) (i) _ _ (by omega) (by omega) (by omega) (by omega) false r2 _ (by first | exact HF.out | exact HF.out.drew _)).mono ?_); rintro e w9 ⟨rfl, n9, rfl⟩))
        go_end0
        exact ⟨rfl, v1, HF.out.drew _, pw_below_drewN HB.out _, HK.out.drewN _, HO.out⟩
      · rw [r2] at q
        simp only [if_true] at q
        have HQ2 := Aside0.mk q
        clear q HQ
        go_wp2_with (first | (go_at_call 45; (with_reducible refine (less_c w0 g vh v1 l1 (k + 1) (i) _ _ (by omega) (by omega) (by omega) (by omega) true r2 _ (by first | exact HF.out | exact HF.out.drew _)).mono ?_); rintro e w9 ⟨rfl, n9, rfl⟩) | (go_at_call 48; (with_reducible refine (swap_c w0 g vh v1 l1 (i) (k + 1) _ _ (by omega) (by omega) (by omega) (by omega) _ rfl _ (by first | exact HF.out | exact HF.out.drew _) (by first | exact HB.out | exact pw_below_drewN HB.out _)).mono ?_); rintro e w9 ⟨rfl, hp⟩; have HP2 := Aside0.mk (PostF.trans (HK.out.drewN _) HO.out hp); clear hp))
        go_roundw
        case rel => exact ⟨i, f, _, rfl, ⟨by omega, by omega, by rw [sw_len]; exact i3⟩, HQ2, HP2⟩
        case measure => simp [intOf]; omega
/-! ### the library's Pop and Push -/
set_option maxHeartbeats 8000000 in
theorem heappop_c (w0 : World) (g : Nat) (vh v : Value) (l : List Int) (hl : l.length ≤ 1000000) (hl0 : 0 < l.length) (x : Int) (l' : List Int) (hx : popV 0 ltI l = (x, l')) (w : World) (h : IsF w0 w g vh v l) (hB : Below w0.heap.size w0 w) (hg : w0.heap.size ≤ g) :
    Calls Try.prog 24 #[.iface 58 (.pointer (some ⟨g, 1, none⟩))] w fun e w' => e = .returned (.iface 3 (.int .i64 x)) ∧ PostF w0 w g vh v l' w' := by
  obtain ⟨n, hn⟩ : ∃ n, l.length = n + 1 := ⟨l.length - 1, by omega⟩
  have e0 : l.length - 1 = n := by omega
  obtain ⟨l1, hl1⟩ : ∃ l1, sw 0 l 0 n = l1 := ⟨_, rfl⟩
  have ln1 : l1.length = n + 1 := by rw [← hl1, sw_len, hn]
  obtain ⟨l2, hl2⟩ : ∃ l2, downV 0 ltI n n l1 0 = l2 := ⟨_, rfl⟩
  have ep : popL 0 ltI l = l2 := by unfold popL; rw [e0, hl1, hl2]
  have ln2 : l2.length = n + 1 := by
    rw [← hl2, down_len, ln1]
  unfold popV at hx
  rw [ep, e0] at hx
  simp only [Prod.mk.injEq] at hx
  obtain ⟨hx1, hx2⟩ := hx
  have HF := Aside0.mk h; have HB := Aside0.mk hB; have HG := Aside0.mk hg
  have H1 := Aside0.mk hl1; have H2 := Aside0.mk hl2; have H3 := Aside0.mk hx1; have H4 := Aside0.mk hx2
  have hm1 := m_len; have hm2 := m_swap; have hm3 := m_pop
  have w1 : wrap64 ((n : Int) + 1 - 1) = n := by rw [show (n : Int) + 1 - 1 = n by omega]; exact Base.w64 (by omega) (by omega)
  have hn' : (((n + 1 : Nat)) : Int) = (n : Int) + 1 := by omega
  clear h hB hg hl1 hl2 hx1 hx2 ep hl0 e0
  go_enter Try.func24, Try.ntmps24
  go_wp2_with (first
    | (go_at_call 44; (with_reducible refine (len_c w0 g vh v l (n + 1) hn _ HF.out).mono ?_); rintro e w9 ⟨rfl, rfl⟩)
    | (go_at_call 48; (with_reducible refine (swap_c w0 g vh v l 0 n _ _ (by omega) (by omega) (by omega) (by omega) l1 H1.out _ HF.out HB.out).mono ?_); rintro e w9 ⟨rfl, v1, hf, hb, hk, ho⟩; have HF1 := Aside0.mk hf; have HB1 := Aside0.mk hb; have HK1 := Aside0.mk hk; have HO1 := Aside0.mk ho; clear hf hb hk ho)
    | (go_at_call 26; (with_reducible refine (down_c w0 g vh v1 l1 n (by omega) (by omega) (by omega) l2 H2.out _ HF1.out HB1.out).mono ?_); rintro e w9 ⟨⟨z9, rfl⟩, hp⟩; have HP := Aside0.mk (PostF.trans HK1.out HO1.out hp); clear hp; obtain ⟨v2, hf, hb, hk, ho⟩ := HP.out; have HF2 := Aside0.mk hf; have HB2 := Aside0.mk hb; have HK2 := Aside0.mk hk; have HO2 := Aside0.mk ho; clear hf hb hk ho)
    | (go_at_call 46; (with_reducible refine (hpop_c w0 g vh v2 l2 n ln2 x H3.out _ HF2.out HB2.out HG.out).mono ?_); rintro e w9 ⟨rfl, hp⟩; have HP3 := Aside0.mk (PostF.trans HK2.out HO2.out hp); clear hp))
  go_ret
  exact ⟨rfl, by rw [← H4.out]; exact HP3.out⟩
set_option maxHeartbeats 8000000 in
theorem heappush_c (w0 : World) (g : Nat) (vh v : Value) (l : List Int) (x : Int) (hl : l.length ≤ 100000) (l' : List Int) (hx : pushV 0 ltI l x = l') (w : World) (h : IsF w0 w g vh v l) (hB : Below w0.heap.size w0 w) (hg : w0.heap.size ≤ g) :
    Calls Try.prog 23 #[.iface 58 (.pointer (some ⟨g, 1, none⟩)), .iface 3 (.int .i64 x)] w fun e w' => e = .returned (.tuple #[]) ∧ PostF w0 w g vh v l' w' := by
  have ln : (l ++ [x]).length = l.length + 1 := by simp
  obtain ⟨n, hn⟩ : ∃ n, l.length = n := ⟨_, rfl⟩
  rw [hn] at ln hl
  unfold pushV at hx
  rw [hn] at hx
  have HF := Aside0.mk h; have HB := Aside0.mk hB; have HG := Aside0.mk hg; have HX := Aside0.mk hx
  have hm1 := m_len; have hm2 := m_push
  have w1 : wrap64 ((n : Int) + 1 - 1) = n := by rw [show (n : Int) + 1 - 1 = n by omega]; exact Base.w64 (by omega) (by omega)
  have hn' : (((n + 1 : Nat)) : Int) = (n : Int) + 1 := by omega
  have HN := Aside0.mk hn
  clear h hB hg hx hn
  go_enter Try.func23, Try.ntmps23
  go_wp2_with (first
    | (go_at_call 47; (with_reducible refine (hpush_c w0 g vh v l x (by rw [HN.out]; omega) _ HF.out HB.out HG.out).mono ?_); rintro e w9 ⟨rfl, v1, hf, hb, hk, ho⟩; have HF1 := Aside0.mk hf; have HB1 := Aside0.mk hb; have HK1 := Aside0.mk hk; have HO1 := Aside0.mk ho; clear hf hb hk ho)
    | (go_at_call 44; (with_reducible refine (len_c w0 g vh v1 (l ++ [x]) (n + 1) ln _ HF1.out).mono ?_); rintro e w9 ⟨rfl, rfl⟩)
    | (go_at_call 25; (with_reducible refine (up_c w0 g vh v1 (l ++ [x]) n (by omega) (by omega) l' HX.out _ (by omega) _ HF1.out HB1.out).mono ?_); rintro e w9 ⟨rfl, hp⟩; have HP := Aside0.mk (PostF.trans HK1.out HO1.out hp); clear hp))
  first | go_end0 | ((try simp only [Exit.inBlock, Exit.then]); refine bodyPost_ret (results_none rfl _ _ _) rfl ?_)
  exact ⟨rfl, HP.out⟩
end Go.Proofs.Ytiekmjkeoicjfaa.Pg
