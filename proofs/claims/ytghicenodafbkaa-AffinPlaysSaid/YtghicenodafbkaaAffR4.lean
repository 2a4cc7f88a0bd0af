/- The document's Bind of a full table; the walk; no condition but those that stand in each. -/
import Derived.Test.YtghicenodafbkaaAffR3
namespace Go.Proofs.Ytghicenodafbkaa.Aff
set_option linter.unusedVariables false
set_option linter.unusedSimpArgs false
open Go.RowKit Go.Proofs.Ytghicenodafbkaa.PA Go.Proofs.YtghicenodafbkaaW.PrintWords Go.Proofs.YtghicenodafbkaaW.PrintLast Go.Proofs.YtghicenodafbkaaW.PrintMore Go.Proofs.Ytghicenodafbkaa.Tab Go.Proofs.Ytghicenodafbkaa.Lst
attribute [local go_sem] max2_int min2_int max_two min_two max_three min_three max_four min_four
set_option maxHeartbeats 16000000 in
set_option maxRecDepth 100000 in
theorem rbind_full (g : Nat) (v : Value) (r : TS) (now k rp : Int) (w0 w : World) (hR : IsR w0 w g v r) (hB : Below w0.heap.size w0 w) (hO : Ok r) (t : TS) (ht : laterV r now = t) (ho : rplace k t.l 0 = none) (hroom : t.room ≤ (t.l.length : Int)) :
    Calls Try.prog 16 #[.pointer (some ⟨g, 0, none⟩), .int .i64 now, .int .u64 k, .int .u64 rp] w fun e w' => e = .returned (.tuple #[]) ∧ ∃ j q, t.l[j]? = some q ∧ (∀ q' ∈ t.l, ¬ sooner q' q) ∧ PostR w0 w g v { t with l := (t.l.take j ++ t.l.drop (j + 1)) ++ [⟨k, rp, t.now + t.keep⟩] } w' := by
  have hO1 := hO.later now
  have H1 := Aside0.mk (rlater_c g v r now w0 w hR hB hO t ht)
  rw [ht] at hO1
  have HL := Aside0.mk (show t.l.length ≤ 1024 by have := hO1.len; have := hO1.room2; omega)
  have HPL := Aside0.mk ho
  obtain ⟨i0, hi0, _, hs0, _⟩ := info_parts info68
  have HGE := Aside0.mk hR.ge
  have n1 := hO1.now1; have n2 := hO1.now2; have kp1 := hO1.keep1; have kp2 := hO1.keep2
  have hu68 := Try.underlying68
  clear hR hB hO ht
  obtain ⟨nw, hnw⟩ : ∃ z, t.now = z := ⟨_, rfl⟩
  obtain ⟨kp, hkp⟩ : ∃ z, t.keep = z := ⟨_, rfl⟩
  obtain ⟨room, hrm⟩ : ∃ z, t.room = z := ⟨_, rfl⟩
  rw [hnw] at n1 n2
  rw [hkp] at kp1 kp2
  rw [hrm] at hroom
  have HNW := Aside0.mk hnw; have HKP := Aside0.mk hkp; have HRM := Aside0.mk hrm
  have e1 : IntKind.i64.wrap (nw + kp) = nw + kp := by rw [i64_w]; exact Base.w64 (by omega) (by omega)
  have hlt : decide (room ≤ (t.l.length : Int)) = true := by simp; omega
  have HL1 := Aside0.mk (show 1 ≤ t.l.length by have := hO1.room1; omega)
  have HLN := HL
  clear ho hnw hkp hrm hroom hO1
  go_enter Try.func16, Try.ntmps16
  go_upto_region 1 with (first | (go_at_call 24; (with_reducible refine H1.out.mono ?_); rintro e w9 ⟨rfl, v', hp⟩; have HP := Aside0.mk hp; clear hp))
  have hc2 := HP.out.1.c2; have hc1 := HP.out.1.c1; have glt := HP.out.1.lt
  rw [HNW.out] at hc2; rw [HKP.out] at hc1
  go_region
  obtain ⟨wb, hwb⟩ : ∃ wb, (w9.alloc (.cells #[.int .u64 k, .int .u64 rp, .int .i64 (nw + kp)] 68)).drew = wb := ⟨_, rfl⟩
  have bel := below_drew1 (below_alloc (Below.refl w9.heap.size w9) (.cells #[.int .u64 k, .int .u64 rp, .int .i64 (nw + kp)] 68))
  have hs : (w9.alloc (.cells #[.int .u64 k, .int .u64 rp, .int .i64 (nw + kp)] 68)).drew.heap[w9.heap.size]? = some (.cells #[.int .u64 k, .int .u64 rp, .int .i64 (nw + kp)] 68 (0, 0)) := blk_drew (blk_new w9 (.cells #[.int .u64 k, .int .u64 rp, .int .i64 (nw + kp)] 68 (0, 0)))
  rw [hwb] at bel hs
  rw [hwb]
  have HS := Aside0.mk hs
  have HP9 := HP; clear HP
  have HP := Aside0.mk (show PostR0 w0 w g v v' t wb from ⟨HP9.out.1.below bel, below_step HP9.out.2.1 bel, KeepBut.trans HP9.out.2.2.1 (KeepBut.of_below bel g _) (.inl rfl), HP9.out.2.2.2⟩)
  have HSN := Aside0.mk (show w.heap.size ≤ w9.heap.size from HP9.out.2.2.1.1)
  have HSO := Aside0.mk (show some w9.heap.size ≠ v'.ownBlock from fun e => absurd (HP9.out.1.ls.own _ e.symm).2.1 (Nat.lt_irrefl _))
  clear HP9 hc2 hc1 glt bel hs hwb
  have hc3 := HP.out.1.c3
  generalize w9.heap.size = sb at HS HSN HSO ⊢
  go_upto_region 5 with (first | (go_at_call 25; (with_reducible refine (place_c g v' t k w0 _ HP.out.1 HL.out _ HPL.out (-1) rfl).mono ?_); rintro e w9 ⟨rfl, rfl⟩))
  have hc0 := HP.out.1.c0
  rw [HRM.out] at hc0
  obtain ⟨A, c, rfl, hac, ham⟩ := HP.out.1.ls.form
  go_quiet (fail)
  have HP9 := HP; clear HP
  have HP := Aside0.mk (show PostR0 w0 w g v _ t (World.drewN wb nq) from ⟨HP9.out.1.drew nq, pw_below_drewN HP9.out.2.1 _, keep_drewN HP9.out.2.2.1 _, HP9.out.2.2.2⟩)
  have HS9 := HS; clear HS
  have HS := Aside0.mk (show (World.drewN wb nq).heap[sb]? = some (.cells #[.int .u64 k, .int .u64 rp, .int .i64 (nw + kp)] 68 (0, 0)) from blk_drewN HS9.out nq)
  clear HP9 HS9 hc3 hc0
  generalize World.drewN wb nq = wa at HP HS ⊢
  have HL2 := HL1.out
  have l0 := HL.out
  obtain ⟨gb, hA, hgb, _, _, _, _⟩ := HP.out.1.ls.at (List.getElem?_eq_getElem (show 0 < t.l.length by omega))
  subst hA
  go_wp2_with fail
  go_loopw [10, 11] (fun vk vi wr => ∃ (j i : Nat) (q : Bk), vk = .int .i64 j ∧ vi = .int .i64 i ∧ Aside0 (i ≤ t.l.length) ∧ Aside0 (j < t.l.length) ∧ Aside0 (t.l[j]? = some q) ∧ Aside0 (∀ m, m < i → ∀ q', t.l[m]? = some q' → ¬ sooner q' q) ∧ Aside0 (∃ n, World.drewN wa n = wr)) (fun _ vi _ => (t.l.length - intOf vi).toNat)
  case atStart =>
    refine ⟨0, 1, _, rfl, rfl, ⟨by omega⟩, ⟨by omega⟩, ⟨List.getElem?_eq_getElem (show 0 < t.l.length by omega)⟩, ⟨fun m hm q' hq' => ?_⟩, ⟨0, rfl⟩⟩
    obtain rfl : m = 0 := by omega
    rw [List.getElem?_eq_getElem (show 0 < t.l.length by omega)] at hq'
    injection hq' with hq'
    rw [← hq']
    unfold sooner; omega
  case round =>
    obtain ⟨j, i, q, rfl, rfl, HI, HJ, HQ, HM, HW⟩ := hrel
    obtain ⟨nw0, rfl⟩ := HW.out
    have l1 := HI.out; have l2 := HJ.out
    have hc3 := HP.out.1.c3
    by_cases hli : i < t.l.length
    · obtain ⟨b, hb⟩ : ∃ b, t.l[i]? = some b := ⟨_, List.getElem?_eq_getElem hli⟩
      obtain ⟨gb1, e1, _, _, hcl, _, _⟩ := HP.out.1.ls.at hb
      cases e1
      obtain ⟨gb2, e2, _, _, hcj, _, _⟩ := HP.out.1.ls.at HQ.out
      cases e2
      have k0 : wa.cell? ⟨gb, i * 3, none⟩ = some (.int .u64 b.key) := hcl 0 _ rfl
      have k2 : wa.cell? ⟨gb, i * 3 + 2, none⟩ = some (.int .i64 b.y) := hcl 2 _ rfl
      have m0 : wa.cell? ⟨gb, j * 3, none⟩ = some (.int .u64 q.key) := hcj 0 _ rfl
      have m2 : wa.cell? ⟨gb, j * 3 + 2, none⟩ = some (.int .i64 q.y) := hcj 2 _ rfl
      have HBI := Aside0.mk hb
      clear hcl hcj hb
      by_cases hs : sooner b q
      · have HNX := Aside0.mk (show ∀ m, m < i + 1 → ∀ q', t.l[m]? = some q' → ¬ sooner q' b from fun m hm q' hq' => by
          by_cases e : m = i
          · subst e
            rw [HBI.out] at hq'
            injection hq' with hq'
            rw [← hq']
            unfold sooner; omega
          · have := HM.out m (by omega) q' hq'
            unfold sooner at this hs ⊢; omega)
        unfold sooner at hs
        by_cases h1 : b.y < q.y
        · have d1 : decide (b.y < q.y) = true := decide_eq_true h1
          clear hs h1
          go_wp2_with fail
          go_quiet (fail)
          go_wp2_with fail
          go_roundw
          case rel => exact ⟨i, i + 1, b, rfl, by go_num, ⟨by omega⟩, ⟨hli⟩, HBI, HNX, ⟨_, rfl⟩⟩
          case measure => simp [intOf]; omega
        · have d3 : decide (b.key < q.key) = true := decide_eq_true (by omega)
          rw [show q.y = b.y by omega] at m2
          have d1 : decide (b.y < b.y) = false := by simp
          have d2 : (b.y == b.y) = true := by simp
          clear hs h1
          go_wp2_with fail
          go_quiet (fail)
          go_wp2_with fail
          go_roundw
          case rel => exact ⟨i, i + 1, b, rfl, by go_num, ⟨by omega⟩, ⟨hli⟩, HBI, HNX, ⟨_, rfl⟩⟩
          case measure => simp [intOf]; omega
      · have HNX := Aside0.mk (show ∀ m, m < i + 1 → ∀ q', t.l[m]? = some q' → ¬ sooner q' q from fun m hm q' hq' => by
          by_cases e : m = i
          · subst e
            rw [HBI.out] at hq'
            injection hq' with hq'
            rw [← hq']
            exact hs
          · exact HM.out m (by omega) q' hq')
        unfold sooner at hs
        by_cases h1 : b.y = q.y
        · have d3 : decide (b.key < q.key) = false := decide_eq_false (by omega)
          rw [← h1] at m2
          have d1 : decide (b.y < b.y) = false := by simp
          have d2 : (b.y == b.y) = true := by simp
          clear hs h1
          go_wp2_with fail
          go_quiet (fail)
          go_wp2_with fail
          go_roundw
          case rel => exact ⟨j, i + 1, q, rfl, by go_num, ⟨by omega⟩, HJ, HQ, HNX, ⟨_, rfl⟩⟩
          case measure => simp [intOf]; omega
        · have d2 : (b.y == q.y) = false := by simpa using h1
          have d1 : decide (b.y < q.y) = false := decide_eq_false (by omega)
          clear hs h1
          go_wp2_with fail
          go_quiet (fail)
          go_wp2_with fail
          go_roundw
          case rel => exact ⟨j, i + 1, q, rfl, by go_num, ⟨by omega⟩, HJ, HQ, HNX, ⟨_, rfl⟩⟩
          case measure => simp [intOf]; omega
    · have HMIN := Aside0.mk (show ∀ q' ∈ t.l, ¬ sooner q' q from fun q' hq' => by
        obtain ⟨m, hm, e⟩ := List.getElem_of_mem hq'
        exact HM.out m (by omega) q' (by rw [List.getElem?_eq_getElem hm, e]))
      go_upto_region 12 with (fail)
      have HP9 := HP; clear HP
      have HP := Aside0.mk (show PostR0 w0 w g v (.slice (some ⟨gb, 0, none⟩) t.l.length c) t (World.drew (World.drewN wa nw0)) from ⟨(HP9.out.1.drew nw0).drew 1, below_drew (pw_below_drewN HP9.out.2.1 _), keep_drew (keep_drewN HP9.out.2.2.1 _), HP9.out.2.2.2⟩)
      have HS9 := HS; clear HS
      have HS := Aside0.mk (show (World.drew (World.drewN wa nw0)).heap[sb]? = some (.cells #[.int .u64 k, .int .u64 rp, .int .i64 (nw + kp)] 68 (0, 0)) from blk_drew (blk_drewN HS9.out nw0))
      clear HP9 HS9 hc3 HW
      generalize World.drewN wa nw0 = wz at HP HS ⊢
      have c3d := HP.out.1.c3
      have lj := List.length_take_of_le (show j ≤ t.l.length by omega)
      have ld : (t.l.drop (j + 1)).length = t.l.length - (j + 1) := List.length_drop
      have hjc : j ≤ c := by omega
      have hs1 : (0 : Int) ≤ (j : Int) + 1 := by omega
      have hs2 : (j : Int) + 1 ≤ (t.l.length : Int) := by omega
      obtain ⟨ad, hadr, hadc⟩ : ∃ ad : Addr, (if c = j + 1 then some (⟨gb, 0, none⟩ : Addr) else some ⟨gb, (j + 1) * 3, none⟩) = some ad ∧ (c = j + 1 ∨ ad = ⟨gb, (j + 1) * 3, none⟩) := by
        by_cases hc : c = j + 1
        · exact ⟨_, if_pos hc, .inl hc⟩
        · exact ⟨_, if_neg hc, .inr rfl⟩
      have HAD := Aside0.mk hadc
      clear hadc
      have e5 : IntKind.i64.wrap ((j : Int) + 1) = (j : Int) + 1 := by rw [i64_w]; exact Base.w64 (by omega) (by omega)
      refine start_ (n := 19) (S := fun w' => w'.cell? ⟨g, 3, none⟩ = some (.slice (some ⟨gb, 0, none⟩) t.l.length c)) (ds := [15, 18]) #[false, false, false, false, false, false, false, false, false, false, false, false, false, false, false, false, false, false, false] (by kernel_rfl) rfl rfl (c3d) (fun hHeld => ?_)
      refine pure_ (i := 0) (N := some 114) (v := ?_) (a' := ?_) #[true, false, false, false, false, false, false, false, false, false, false, false, false, false, false, false, false, false, false] rfl rfl (by kernel_rfl) (fun _ _ _ h => h) (Or.inl ⟨by rfl, ?_⟩) ?_ ?_
      rotate_left
      · intro w'
        go_simp
        with_reducible rfl
      rotate_left
      · simp only [Act.put, List.setIfInBounds_toArray, List.set_cons_zero, List.set_cons_succ, i64_w, i32_w]
        rfl
      refine pure_ (i := 1) (N := some 115) (v := ?_) (a' := ?_) #[true, true, false, false, false, false, false, false, false, false, false, false, false, false, false, false, false, false, false] rfl rfl (by kernel_rfl) (fun _ _ _ h => h) (Or.inl ⟨by rfl, ?_⟩) ?_ ?_
      rotate_left
      · intro w'
        go_simp
        with_reducible rfl
      rotate_left
      · simp only [Act.put, List.setIfInBounds_toArray, List.set_cons_zero, List.set_cons_succ, i64_w, i32_w]
        rfl
      refine pure_ (i := 2) (N := some 116) (v := ?_) (a' := ?_) #[true, true, true, false, false, false, false, false, false, false, false, false, false, false, false, false, false, false, false] rfl rfl (by kernel_rfl) (fun _ _ _ h => h) (Or.inl ⟨by rfl, ?_⟩) ?_ ?_
      rotate_left
      · intro w'
        go_simp
        with_reducible rfl
      rotate_left
      · simp only [Act.put, List.setIfInBounds_toArray, List.set_cons_zero, List.set_cons_succ, i64_w, i32_w]
        rfl
      refine pure_ (i := 3) (N := some 117) (v := ?_) (a' := ?_) #[true, true, true, true, false, false, false, false, false, false, false, false, false, false, false, false, false, false, false] rfl rfl (by kernel_rfl) (fun _ _ _ h => h) (Or.inl ⟨by rfl, ?_⟩) ?_ ?_
      rotate_left
      · intro w'
        go_simp
        with_reducible rfl
      rotate_left
      · simp only [Act.put, List.setIfInBounds_toArray, List.set_cons_zero, List.set_cons_succ, i64_w, i32_w]
        rfl
      refine pure_ (i := 5) (N := some 119) (v := ?_) (a' := ?_) #[true, true, true, true, false, true, false, false, false, false, false, false, false, false, false, false, false, false, false] rfl rfl (by kernel_rfl) (fun _ _ _ h => h) (Or.inl ⟨by rfl, ?_⟩) ?_ ?_
      rotate_left
      · intro w'
        go_simp
        with_reducible rfl
      rotate_left
      · simp only [Act.put, List.setIfInBounds_toArray, List.set_cons_zero, List.set_cons_succ, i64_w, i32_w]
        rfl
      refine pure_ (i := 8) (N := some 122) (v := ?_) (a' := ?_) #[true, true, true, true, false, true, false, false, true, false, false, false, false, false, false, false, false, false, false] rfl rfl (by kernel_rfl) (fun _ _ _ h => h) (Or.inl ⟨by rfl, ?_⟩) ?_ ?_
      rotate_left
      · intro w'
        go_simp
        with_reducible rfl
      rotate_left
      · simp only [Act.put, List.setIfInBounds_toArray, List.set_cons_zero, List.set_cons_succ, i64_w, i32_w]
        rfl
      refine pure_ (i := 9) (N := some 123) (v := ?_) (a' := ?_) #[true, true, true, true, false, true, false, false, true, true, false, false, false, false, false, false, false, false, false] rfl rfl (by kernel_rfl) (fun _ _ _ h => h) (Or.inl ⟨by rfl, ?_⟩) ?_ ?_
      rotate_left
      · intro w'
        go_simp
        with_reducible rfl
      rotate_left
      · simp only [Act.put, List.setIfInBounds_toArray, List.set_cons_zero, List.set_cons_succ, i64_w, i32_w]
        rfl
      refine pure_ (i := 10) (N := some 124) (v := ?_) (a' := ?_) #[true, true, true, true, false, true, false, false, true, true, true, false, false, false, false, false, false, false, false] rfl rfl (by kernel_rfl) (fun _ _ _ h => h) (Or.inl ⟨by rfl, ?_⟩) ?_ ?_
      rotate_left
      · intro w'
        go_simp
        with_reducible rfl
      rotate_left
      · simp only [Act.put, List.setIfInBounds_toArray, List.set_cons_zero, List.set_cons_succ, i64_w, i32_w]
        rfl
      refine pure_ (i := 12) (N := some 126) (v := ?_) (a' := ?_) #[true, true, true, true, false, true, false, false, true, true, true, false, true, false, false, false, false, false, false] rfl rfl (by kernel_rfl) (fun _ _ _ h => h) (Or.inl ⟨by rfl, ?_⟩) ?_ ?_
      rotate_left
      · intro w'
        go_simp
        with_reducible rfl
      rotate_left
      · simp only [Act.put, List.setIfInBounds_toArray, List.set_cons_zero, List.set_cons_succ, i64_w, i32_w]
        rfl
      refine pure_ (i := 13) (N := some 127) (v := ?_) (a' := ?_) #[true, true, true, true, false, true, false, false, true, true, true, false, true, true, false, false, false, false, false] rfl rfl (by kernel_rfl) (fun _ _ _ h => h) (Or.inl ⟨by rfl, ?_⟩) ?_ ?_
      rotate_left
      · intro w'
        go_simp
        with_reducible rfl
      rotate_left
      · simp only [Act.put, List.setIfInBounds_toArray, List.set_cons_zero, List.set_cons_succ, i64_w, i32_w]
        rfl
      refine take_ (i := 4) (N := some 118) (v := ?_) (a' := ?_) #[true, true, true, true, true, true, false, false, true, true, true, false, true, true, false, false, false, false, false] rfl rfl (by kernel_rfl) (fun _ _ _ h => h) (Or.inl ⟨by rfl, ?_⟩) hHeld ?_ ?_
      rotate_left
      · intro w' s0
        go_simp
        with_reducible rfl
      rotate_left
      · simp only [Act.put, List.setIfInBounds_toArray, List.set_cons_zero, List.set_cons_succ, i64_w, i32_w]
        rfl
      refine pure_ (i := 6) (N := some 120) (v := ?_) (a' := ?_) #[true, true, true, true, true, true, true, false, true, true, true, false, true, true, false, false, false, false, false] rfl rfl (by kernel_rfl) (fun _ _ _ h => h) (Or.inl ⟨by rfl, ?_⟩) ?_ ?_
      rotate_left
      · intro w'
        go_simp
        with_reducible rfl
      rotate_left
      · simp only [Act.put, List.setIfInBounds_toArray, List.set_cons_zero, List.set_cons_succ, i64_w, i32_w]
        rfl
      refine take_ (i := 11) (N := some 125) (v := ?_) (a' := ?_) #[true, true, true, true, true, true, true, false, true, true, true, true, true, true, false, false, false, false, false] rfl rfl (by kernel_rfl) (fun _ _ _ h => h) (Or.inl ⟨by rfl, ?_⟩) hHeld ?_ ?_
      rotate_left
      · intro w' s0
        go_simp
        with_reducible rfl
      rotate_left
      · simp only [Act.put, List.setIfInBounds_toArray, List.set_cons_zero, List.set_cons_succ, i64_w, i32_w]
        rfl
      refine pure_ (i := 14) (N := some 128) (v := ?_) (a' := ?_) #[true, true, true, true, true, true, true, false, true, true, true, true, true, true, true, false, false, false, false] rfl rfl (by kernel_rfl) (fun _ _ _ h => h) (Or.inl ⟨by rfl, ?_⟩) ?_ ?_
      rotate_left
      · intro w'
        go_simp
        with_reducible rfl
      rotate_left
      · simp only [Act.put, List.setIfInBounds_toArray, List.set_cons_zero, List.set_cons_succ, i64_w, i32_w]
        rfl
      refine one_ (i := 7) (N := some 121) #[true, true, true, true, true, true, true, true, true, true, true, true, true, true, true, false, false, false, false] rfl rfl (by kernel_rfl) (by decide) (fun K hK => ?_)
      obtain ⟨v1, w1, hr1, l1, g1, o1⟩ := cat_run (d := encB) (P := Try.prog) (W := World.drew wz) 40 40 68 _ 24 Try.underlying40 info68 rfl (World.drew wz).heap.size (.slice none 0 0) [] (t.l.take j) ⟨gb, 0, none⟩ c (fun m u hu => World.ownsRow.cells HP.out.1.ls (g := gb) rfl m u (flat_take hu)) (Ls.nil _ _ _ _) (Nat.le_refl _) (by rw [lj]; simp; omega) (by decide)
      rw [lj] at hr1
      rw [List.nil_append] at l1
      refine value_ (w1 := w1) (v := v1) (by rfl) rfl (append_exec _ _ 40 rfl rfl rfl hr1) ?_
      have b1 := below_grown0 g1
      refine hK.out _ _ (pw_cell_below b1 c3d) (fun hHeld => ?_)
      clear hK K
      refine norm_ (a' := ?_) ?_ ?_
      rotate_left
      · show Act.put _ (some 121) _ = _
        simp only [Act.put, List.setIfInBounds_toArray, List.set_cons_zero, List.set_cons_succ, i64_w, i32_w]
        rfl
      refine last_ (i := 15) (N := some 129) #[true, true, true, true, true, true, true, true, true, true, true, true, true, true, true, true, false, false, false] rfl rfl (by kernel_rfl) (by decide) (fun K hK => ?_)
      obtain ⟨gn, egn, hnews⟩ := (HP.out.1.ls.below b1).news (show 0 < t.l.length by omega)
      cases egn
      obtain ⟨v2, w2, hr2, l2, g2, o2⟩ := cat_run (d := encB) (P := Try.prog) (W := w1) 40 40 68 _ 24 Try.underlying40 info68 rfl _ v1 (t.l.take j) (t.l.drop (j + 1)) ad (c - (j + 1)) (fun m u hu => drop_cells HAD.out hac hnews hu) l1 b1.size (by rw [lj, ld]; omega) (by decide)
      rw [ld] at hr2
      obtain ⟨l1_, hl1⟩ : ∃ l1_, t.l.take j ++ t.l.drop (j + 1) = l1_ := ⟨_, rfl⟩
      have HL1L := Aside0.mk hl1
      have HLQ := Aside0.mk (show l1_.length ≤ 1024 by rw [← hl1, List.length_append, lj, ld]; have := HLN.out; omega)
      rw [hl1] at l2
      clear hl1
      obtain ⟨A3, c3, rfl, _, _⟩ := l2.form
      refine value_ (w1 := w2) (by rfl) rfl (append_exec _ _ 40 rfl rfl rfl hr2) ?_
      have b2 := below_grownN b1 g2 (o1.imp id fun e => ⟨_, e, Nat.le_refl _⟩)
      have c34 := pw_cell_below b2 c3d
      have f34 := (HP.out.1.below b2).free 3
      refine hK.out _ _ ?_
      clear hK K
      refine norm_ (a' := ?_) ?_ ?_
      rotate_left
      · show Act.put _ (some 129) _ = _
        simp only [Act.put, List.setIfInBounds_toArray, List.set_cons_zero, List.set_cons_succ, i64_w, i32_w]
        rfl
      refine pure_ (i := 16) (N := some 130) (v := ?_) (a' := ?_) #[true, true, true, true, true, true, true, true, true, true, true, true, true, true, true, true, true, false, false] rfl rfl (by kernel_rfl) (fun _ _ _ h => h) (Or.inl ⟨by rfl, ?_⟩) ?_ ?_
      rotate_left
      · intro w'
        go_simp
        with_reducible rfl
      rotate_left
      · simp only [Act.put, List.setIfInBounds_toArray, List.set_cons_zero, List.set_cons_succ, i64_w, i32_w]
        rfl
      refine pure_ (i := 17) (N := some 131) (v := ?_) (a' := ?_) #[true, true, true, true, true, true, true, true, true, true, true, true, true, true, true, true, true, true, false] rfl rfl (by kernel_rfl) (fun _ _ _ h => h) (Or.inl ⟨by rfl, ?_⟩) ?_ ?_
      rotate_left
      · intro w'
        go_simp
        with_reducible rfl
      rotate_left
      · simp only [Act.put, List.setIfInBounds_toArray, List.set_cons_zero, List.set_cons_succ, i64_w, i32_w]
        rfl
      refine last_ (i := 18) (N := none) #[true, true, true, true, true, true, true, true, true, true, true, true, true, true, true, true, true, true, true] rfl rfl (by kernel_rfl) (by decide) (fun K hK => ?_)
      refine skip_ (w1 := ?_) (by rfl) rfl ?_ ?_
      rotate_left
      · go_simp
        rfl
      refine hK.out _ _ ?_
      clear hK K
      refine done_ (by kernel_rfl) ?_
      have n0_ := Aside0.mk (show PostR0 w0 w g v (.slice A3 (l1_).length c3) { t with l := l1_ } (World.drew (w2.setCell ⟨g, 3, none⟩ (.slice A3 (l1_).length c3))) from by
        refine ⟨((HP.out.1.below b2).lay (l2.lower HP.out.2.1.size)).drew 1, below_drew (below_set (below_step HP.out.2.1 b2) HGE.out), keep_drew (KeepBut.set_ (KeepBut.trans HP.out.2.2.1 (KeepBut.of_below b2 g _) (.inl rfl)) 3 _), ?_⟩
        rcases o2 with e | e
        · rw [e]; exact .inr (o1.imp id fun e => ⟨_, e, HP.out.2.2.1.1⟩)
        · exact .inr (.inr ⟨_, e, Nat.le_trans HP.out.2.2.1.1 b1.size⟩))
      have n1_ := Aside0.mk (show (World.drew (w2.setCell ⟨g, 3, none⟩ (.slice A3 (l1_).length c3))).heap[sb]? = some (.cells #[.int .u64 k, .int .u64 rp, .int .i64 (nw + kp)] 68 (0, 0)) from blk_drew (blk_far (blk_below HS.out b2) (p := ⟨g, 3, none⟩) (by have := blk_ne HS.out HP.out.1.1 (by decide); exact this) _))
      have HLN := HLQ
      clear HP HS c3d c34 f34 l1 l2 g1 g2 o1 o2 b1 b2 hr1 hr2 hnews
      have HP := n0_; have HS := n1_
      clear n0_ n1_
      go_upto_region 13 with (fail)
      obtain ⟨wa, hwa⟩ : ∃ wa, w2.setCell ⟨g, 3, none⟩ (.slice A3 l1_.length c3) = wa := ⟨_, rfl⟩
      rw [hwa] at HP HS ⊢
      clear hwa
      have c3d := HP.out.1.c3
      have s0 := blk_cell HS.out 0; have s1 := blk_cell HS.out 1; have s2 := blk_cell HS.out 2
      have HLS := Aside0.mk HP.out.1.ls
      refine start_ (n := 12) (S := fun w' => w'.cell? ⟨g, 3, none⟩ = some (.slice A3 (l1_).length c3) ∧ w'.cell? ⟨sb, 0, none⟩ = some (.int .u64 k) ∧ w'.cell? ⟨sb, 1, none⟩ = some (.int .u64 rp) ∧ w'.cell? ⟨sb, 2, none⟩ = some (.int .i64 (nw + kp))) (ds := [8, 11]) #[false, false, false, false, false, false, false, false, false, false, false, false] (by kernel_rfl) rfl rfl ⟨c3d, s0, s1, s2⟩ (fun hHeld => ?_)
      refine pure_ (i := 0) (N := some 132) (v := ?_) (a' := ?_) #[true, false, false, false, false, false, false, false, false, false, false, false] rfl rfl (by kernel_rfl) (fun _ _ _ h => h) (Or.inl ⟨by rfl, ?_⟩) ?_ ?_
      rotate_left
      · intro w'
        go_simp
        with_reducible rfl
      rotate_left
      · simp only [Act.put, List.setIfInBounds_toArray, List.set_cons_zero, List.set_cons_succ, i64_w, i32_w]
        rfl
      refine pure_ (i := 1) (N := some 133) (v := ?_) (a' := ?_) #[true, true, false, false, false, false, false, false, false, false, false, false] rfl rfl (by kernel_rfl) (fun _ _ _ h => h) (Or.inl ⟨by rfl, ?_⟩) ?_ ?_
      rotate_left
      · intro w'
        go_simp
        with_reducible rfl
      rotate_left
      · simp only [Act.put, List.setIfInBounds_toArray, List.set_cons_zero, List.set_cons_succ, i64_w, i32_w]
        rfl
      refine pure_ (i := 2) (N := some 134) (v := ?_) (a' := ?_) #[true, true, true, false, false, false, false, false, false, false, false, false] rfl rfl (by kernel_rfl) (fun _ _ _ h => h) (Or.inl ⟨by rfl, ?_⟩) ?_ ?_
      rotate_left
      · intro w'
        go_simp
        with_reducible rfl
      rotate_left
      · simp only [Act.put, List.setIfInBounds_toArray, List.set_cons_zero, List.set_cons_succ, i64_w, i32_w]
        rfl
      refine pure_ (i := 3) (N := some 135) (v := ?_) (a' := ?_) #[true, true, true, true, false, false, false, false, false, false, false, false] rfl rfl (by kernel_rfl) (fun _ _ _ h => h) (Or.inl ⟨by rfl, ?_⟩) ?_ ?_
      rotate_left
      · intro w'
        go_simp
        with_reducible rfl
      rotate_left
      · simp only [Act.put, List.setIfInBounds_toArray, List.set_cons_zero, List.set_cons_succ, i64_w, i32_w]
        rfl
      refine take_ (i := 4) (N := some 136) (v := ?_) (a' := ?_) #[true, true, true, true, true, false, false, false, false, false, false, false] rfl rfl (by kernel_rfl) (fun _ _ _ h => h) (Or.inl ⟨by rfl, ?_⟩) hHeld ?_ ?_
      rotate_left
      · rintro w' ⟨s0, s1, s2, s3⟩
        go_simp
        with_reducible rfl
      rotate_left
      · simp only [Act.put, List.setIfInBounds_toArray, List.set_cons_zero, List.set_cons_succ, i64_w, i32_w]
        rfl
      refine take_ (i := 6) (N := some 138) (v := ?_) (a' := ?_) #[true, true, true, true, true, false, true, false, false, false, false, false] rfl rfl (by kernel_rfl) (fun _ _ _ h => h) (Or.inl ⟨by rfl, ?_⟩) hHeld ?_ ?_
      rotate_left
      · rintro w' ⟨s0, s1, s2, s3⟩
        go_simp
        with_reducible rfl
      rotate_left
      · simp only [Act.put, List.setIfInBounds_toArray, List.set_cons_zero, List.set_cons_succ, i64_w, i32_w]
        rfl
      refine join_ (σ := Nat × Value) 4 #[true, true, true, true, true, true, true, true, false, false, false, false] (fun s => [(137, s.2), (139, .slice (some ⟨s.1, 0, none⟩) 1 1)]) (fun s w' => Ls encB 68 w' (World.drew wa).heap.size s.2 (l1_) ∧ w'.heap[s.1]? = some (.cells #[.int .u64 k, .int .u64 rp, .int .i64 (nw + kp)] 68 (0, 0)) ∧ Below (World.drew wa).heap.size (World.drew wa) w' ∧ (s.2.ownBlock = none ∨ ∃ b, s.2.ownBlock = some b ∧ (World.drew wa).heap.size ≤ b)) ?_ ?_
      rotate_left
      · intro hCont
        refine two_ (i := 5) (j := 7) (Ni := some 137) (Nj := some 139) #[true, true, true, true, true, true, true, false, false, false, false, false] #[true, true, true, true, true, false, true, true, false, false, false, false] rfl rfl rfl rfl (by kernel_rfl) (by decide) (by decide) (fun K hK => ?_) (fun K hK => ?_)
        · skip
          obtain ⟨v1, w1, hr1, l1, g1, o1⟩ := copy_run (P := Try.prog) 40 40 68 _ 24 Try.underlying40 info68 rfl w0.heap.size (.slice A3 (l1_).length c3) (l1_) HLS.out (by have := HLN.out; omega) (by decide)
          refine value_ (w1 := w1) (v := v1) (by rfl) rfl (append_exec _ _ 40 rfl rfl rfl hr1) ?_
          have b1 := below_grown0 g1
          refine hK.out _ _ ⟨pw_cell_below b1 c3d, pw_cell_below b1 s0, pw_cell_below b1 s1, pw_cell_below b1 s2⟩ (fun hHeld => ?_)
          clear hK K
          refine norm_ (a' := ?_) ?_ ?_
          rotate_left
          · show Act.put _ (some 137) _ = _
            simp only [Act.put, List.setIfInBounds_toArray, List.set_cons_zero, List.set_cons_succ, i64_w, i32_w]
            rfl
          refine one_ (i := 7) (N := some 139) #[true, true, true, true, true, true, true, true, false, false, false, false] rfl rfl (by kernel_rfl) (by decide) (fun K hK => ?_)
          have b2 := below_step b1 (below_alloc (Below.refl w1.heap.size w1) (.cells #[.int .u64 k, .int .u64 rp, .int .i64 (nw + kp)] 68))
          have hn1 : (w1.alloc (.cells #[.int .u64 k, .int .u64 rp, .int .i64 (nw + kp)] 68)).heap[w1.heap.size]? = some (.cells #[.int .u64 k, .int .u64 rp, .int .i64 (nw + kp)] 68 (0, 0)) := blk_new _ _
          have l2 := l1.below (below_alloc (Below.refl w1.heap.size w1) (.cells #[.int .u64 k, .int .u64 rp, .int .i64 (nw + kp)] 68))
          refine value_ (w1 := ?_) (v := ?_) (by rfl) rfl ?_ ?_
          rotate_left 2
          · go_simp
            constructor
            · rfl
            · rfl
          refine hK.out _ _ ⟨pw_cell_below b2 c3d, pw_cell_below b2 s0, pw_cell_below b2 s1, pw_cell_below b2 s2⟩ (fun hHeld => ?_)
          clear hK K
          refine norm_ (a' := ?_) ?_ ?_
          rotate_left
          · show Act.put _ (some 139) _ = _
            simp only [Act.put, List.setIfInBounds_toArray, List.set_cons_zero, List.set_cons_succ, i64_w, i32_w]
            rfl
          exact norm_ (by first | (simp only [putAll, Act.put, List.setIfInBounds_toArray, List.set_cons_zero, List.set_cons_succ]; done) | (simp only [putAll, Act.put, List.setIfInBounds_toArray, List.set_cons_zero, List.set_cons_succ]; rfl)) (hCont (w1.heap.size, v1) _ ⟨l2, hn1, b2, o1.imp id fun e => ⟨_, e, Nat.le_refl _⟩⟩)
        · skip
          have b1 := below_alloc (Below.refl (World.drew wa).heap.size (World.drew wa)) (.cells #[.int .u64 k, .int .u64 rp, .int .i64 (nw + kp)] 68)
          have hn1 : ((World.drew wa).alloc (.cells #[.int .u64 k, .int .u64 rp, .int .i64 (nw + kp)] 68)).heap[(World.drew wa).heap.size]? = some (.cells #[.int .u64 k, .int .u64 rp, .int .i64 (nw + kp)] 68 (0, 0)) := blk_new _ _
          refine value_ (w1 := ?_) (v := ?_) (by rfl) rfl ?_ ?_
          rotate_left 2
          · go_simp
            constructor
            · rfl
            · rfl
          refine hK.out _ _ ⟨pw_cell_below b1 c3d, pw_cell_below b1 s0, pw_cell_below b1 s1, pw_cell_below b1 s2⟩ (fun hHeld => ?_)
          clear hK K
          refine norm_ (a' := ?_) ?_ ?_
          rotate_left
          · show Act.put _ (some 139) _ = _
            simp only [Act.put, List.setIfInBounds_toArray, List.set_cons_zero, List.set_cons_succ, i64_w, i32_w]
            rfl
          refine one_ (i := 5) (N := some 137) #[true, true, true, true, true, true, true, true, false, false, false, false] rfl rfl (by kernel_rfl) (by decide) (fun K hK => ?_)
          obtain ⟨v1, w1, hr1, l2, g1, o1⟩ := copy_run (P := Try.prog) 40 40 68 _ 24 Try.underlying40 info68 rfl w0.heap.size (.slice A3 (l1_).length c3) (l1_) (HLS.out.below b1) (by have := HLN.out; omega) (by decide)
          refine value_ (w1 := w1) (v := v1) (by rfl) rfl (append_exec _ _ 40 rfl rfl rfl hr1) ?_
          have b2 := below_step b1 (below_grown0 g1)
          have hn2 := blk_grown hn1 g1 (by simp)
          refine hK.out _ _ ⟨pw_cell_below b2 c3d, pw_cell_below b2 s0, pw_cell_below b2 s1, pw_cell_below b2 s2⟩ (fun hHeld => ?_)
          clear hK K
          refine norm_ (a' := ?_) ?_ ?_
          rotate_left
          · show Act.put _ (some 137) _ = _
            simp only [Act.put, List.setIfInBounds_toArray, List.set_cons_zero, List.set_cons_succ, i64_w, i32_w]
            rfl
          exact norm_ (by first | (simp only [putAll, Act.put, List.setIfInBounds_toArray, List.set_cons_zero, List.set_cons_succ]; done) | (simp only [putAll, Act.put, List.setIfInBounds_toArray, List.set_cons_zero, List.set_cons_succ]; rfl)) (hCont ((World.drew wa).heap.size, v1) _ ⟨l2.lower b1.size, hn2, b2, o1.imp id fun e => ⟨_, e, b1.size⟩⟩)
      rintro ⟨nb, v1⟩ w1 ⟨l2, hn2, b2, o1⟩
      dsimp only at l2 hn2 o1 ⊢
      have hHeld : w1.cell? ⟨g, 3, none⟩ = some (.slice A3 (l1_).length c3) ∧ w1.cell? ⟨sb, 0, none⟩ = some (.int .u64 k) ∧ w1.cell? ⟨sb, 1, none⟩ = some (.int .u64 rp) ∧ w1.cell? ⟨sb, 2, none⟩ = some (.int .i64 (nw + kp)) := ⟨pw_cell_below b2 c3d, pw_cell_below b2 s0, pw_cell_below b2 s1, pw_cell_below b2 s2⟩
      refine norm_ (a' := ?_) ?_ ?_
      rotate_left
      · simp only [putAll, Act.put, List.setIfInBounds_toArray, List.set_cons_zero, List.set_cons_succ]
        rfl
      refine last_ (i := 8) (N := some 140) #[true, true, true, true, true, true, true, true, true, false, false, false] rfl rfl (by kernel_rfl) (by decide) (fun K hK => ?_)
      obtain ⟨v2, w2, hr2, l3, g2, o2⟩ := cat_run (d := encB) (P := Try.prog) (W := w1) 40 40 68 _ 24 Try.underlying40 info68 rfl _ v1 (l1_) [⟨k, rp, nw + kp⟩] ⟨nb, 0, none⟩ 1 (fun j u hu => by rw [add_plain]; refine (blk_cell hn2 j).trans ?_; rw [List.getElem?_toArray]; exact hu) l2 b2.size (by have := HLN.out; simp; omega) (by decide)
      obtain ⟨A2, c2, rfl, _, _⟩ := l3.form
      refine value_ (w1 := w2) (by rfl) rfl (append_exec _ _ 40 rfl rfl rfl hr2) ?_
      have b3 := below_grownN b2 g2 o1
      have c34 := pw_cell_below b3 c3d
      have f34 := (HP.out.1.below b3).free 3
      refine hK.out _ _ ?_
      clear hK K
      refine norm_ (a' := ?_) ?_ ?_
      rotate_left
      · show Act.put _ (some 140) _ = _
        simp only [Act.put, List.setIfInBounds_toArray, List.set_cons_zero, List.set_cons_succ, i64_w, i32_w]
        rfl
      refine pure_ (i := 9) (N := some 141) (v := ?_) (a' := ?_) #[true, true, true, true, true, true, true, true, true, true, false, false] rfl rfl (by kernel_rfl) (fun _ _ _ h => h) (Or.inl ⟨by rfl, ?_⟩) ?_ ?_
      rotate_left
      · intro w'
        go_simp
        with_reducible rfl
      rotate_left
      · simp only [Act.put, List.setIfInBounds_toArray, List.set_cons_zero, List.set_cons_succ, i64_w, i32_w]
        rfl
      refine pure_ (i := 10) (N := some 142) (v := ?_) (a' := ?_) #[true, true, true, true, true, true, true, true, true, true, true, false] rfl rfl (by kernel_rfl) (fun _ _ _ h => h) (Or.inl ⟨by rfl, ?_⟩) ?_ ?_
      rotate_left
      · intro w'
        go_simp
        with_reducible rfl
      rotate_left
      · simp only [Act.put, List.setIfInBounds_toArray, List.set_cons_zero, List.set_cons_succ, i64_w, i32_w]
        rfl
      refine last_ (i := 11) (N := none) #[true, true, true, true, true, true, true, true, true, true, true, true] rfl rfl (by kernel_rfl) (by decide) (fun K hK => ?_)
      refine skip_ (w1 := ?_) (by rfl) rfl ?_ ?_
      rotate_left
      · go_simp
        rfl
      refine hK.out _ _ ?_
      clear hK K
      refine done_ (by kernel_rfl) ?_
      have HFIN := Aside0.mk (show PostR w0 w g v { t with l := l1_ ++ [⟨k, rp, t.now + t.keep⟩] } (w2.setCell ⟨g, 3, none⟩ (.slice A2 (l1_ ++ [(⟨k, rp, nw + kp⟩ : Bk)]).length c2)) from by
        have z1 := HNW.out; have z2 := HKP.out
        subst z1 z2
        refine ⟨_, (HP.out.1.below b3).lay (l3.lower HP.out.2.1.size), below_set (below_step HP.out.2.1 b3) HGE.out, KeepBut.set_ (KeepBut.trans HP.out.2.2.1 (KeepBut.of_below b3 g _) (.inl rfl)) 3 _, ?_⟩
        rcases o2 with e | e
        · rw [e]; exact .inr (o1.imp id fun ⟨b, e, hb⟩ => ⟨b, e, Nat.le_trans HP.out.2.2.1.1 hb⟩)
        · exact .inr (.inr ⟨_, e, Nat.le_trans HP.out.2.2.1.1 b2.size⟩))
      go_wp2_with fail
      first | go_end0 | ((try simp only [Exit.inBlock, Exit.then]); refine bodyPost_ret (results_none rfl _ _ _) rfl ?_)
      have hf := HFIN.out
      rw [List.length_append, List.length_singleton, ← HL1L.out, List.append_assoc] at hf
      rw [← HL1L.out]
      exact ⟨rfl, j, q, HQ.out, HMIN.out, hf⟩
end Go.Proofs.Ytghicenodafbkaa.Aff
