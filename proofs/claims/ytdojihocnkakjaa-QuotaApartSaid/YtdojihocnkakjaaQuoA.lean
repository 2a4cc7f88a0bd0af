/- QuotaApart: sessions do not turn one another, but by the room; a table that nobody made has nothing; the walk; no condition but that numbers are of their kinds. -/
import Derived.Test.YtdojihocnkakjaaQuoL
import Derived.Test.YtdojihocnkakjaaSteps
namespace Go.Proofs.Ytdojihocnkakjaa.Quo
set_option linter.unusedVariables false
set_option linter.unusedSimpArgs false
open Go.RowKit Go.Proofs.Ytdojihocnkakjaa.PA Go.Proofs.YtdojihocnkakjaaW.PrintWords Go.Proofs.YtdojihocnkakjaaW.PrintLast Go.Proofs.YtdojihocnkakjaaW.PrintMore Go.Proofs.Ytdojihocnkakjaa.Tab Go.Proofs.Ytdojihocnkakjaa.SatMul
attribute [local go_sem] max2_int min2_int max_two min_two max_three min_three max_four min_four
/-! ### plain -/
structure AI (most rate : Int) (i j : Nat) (now : Int) (sa sb : TS) : Prop where
  oka : Ok sa
  okb : Ok sb
  ra : sa.room = 1024
  rb : sb.room = 1024
  ma : sa.most = most
  mb : sb.most = most
  ta : sa.rate = rate
  tb : sb.rate = rate
  na : sa.now ≤ now
  nb : sb.now ≤ sa.now
  n1 : now ≤ j * 1048576
  la : sa.l.length ≤ i
  lb : sb.l.length ≤ i
  rel : F sa 1 = mn (F sb 1 + (sa.now - sb.now) * rate) most
theorem AI.start {most rate : Int} (h : MayB 1024 most rate) : AI most rate 0 0 0 ⟨1024, most, rate, 0, []⟩ ⟨1024, most, rate, 0, []⟩ := by
  have o := ok_new h
  refine ⟨o, o, rfl, rfl, rfl, rfl, rfl, rfl, Int.le_refl 0, Int.le_refl 0, by decide, Nat.le_refl 0, Nat.le_refl 0, ?_⟩
  have e : ({ room := 1024, most := most, rate := rate, now := 0, l := [] } : TS).now - ({ room := 1024, most := most, rate := rate, now := 0, l := [] } : TS).now = 0 := by omega
  have b : F ({ room := 1024, most := most, rate := rate, now := 0, l := [] } : TS) 1 ≤ most := (F_bd o 1).2
  rw [e, Int.zero_mul, Int.add_zero]
  unfold mn
  split <;> omega
theorem AI.on {most rate : Int} {i j : Nat} {now : Int} {sa sb : TS} (h : AI most rate i j now sa sb) {now' : Int} (h0 : now ≤ now') (h1 : now' ≤ now + 1048576) : AI most rate i (j + 1) now' sa sb :=
  ⟨h.oka, h.okb, h.ra, h.rb, h.ma, h.mb, h.ta, h.tb, Int.le_trans h.na h0, h.nb, by have := h.n1; omega, h.la, h.lb, h.rel⟩
theorem AI.same {most rate : Int} {i j : Nat} {now : Int} {sa sb : TS} (h : AI most rate i j now sa sb) (hj : j ≤ 151) : F (laterV sa now) 1 = F (laterV sb now) 1 ∧ F (laterV sa now) 1 = mn (F sb 1 + (now - sb.now) * rate) most := by
  have hn : now ≤ 1099511627776 := by have := h.n1; omega
  have ta := Tn_is (s := sa) hn h.na
  have tb := Tn_is (s := sb) hn (Int.le_trans h.nb h.na)
  have ea := F_later h.oka now 1
  have eb := F_later h.okb now 1
  rw [ta, h.ta, h.ma, h.rel] at ea
  rw [tb, h.tb, h.mb] at eb
  have hr := h.oka.rate1
  rw [h.ta] at hr
  have d1 : 0 ≤ (now - sa.now) * rate := Int.mul_nonneg (by have := h.na; omega) hr
  have d2 : 0 ≤ (sa.now - sb.now) * rate := Int.mul_nonneg (by have := h.nb; omega) hr
  have d3 : (now - sb.now) * rate = (now - sa.now) * rate + (sa.now - sb.now) * rate := by rw [← Int.add_mul]; congr 1; omega
  have key : F (laterV sa now) 1 = mn (F sb 1 + (now - sb.now) * rate) most := by
    rw [ea, d3]
    unfold mn
    (repeat' split) <;> omega
  exact ⟨by rw [key, eb], key⟩
/-- another key's take -/
theorem apart_other {most rate : Int} {i j : Nat} {now : Int} {sa sb : TS} (h : AI most rate i j now sa sb) (hi : i ≤ 150) (hj : j ≤ 151) {k : Int} (hk : k ≠ 1) (n : Int) : AI most rate (i + 1) j now (takeV sa now k n).2 sb := by
  obtain ⟨f1, f2, f3, f4⟩ := take_fields h.oka now k n
  have hn : now ≤ 1099511627776 := by have := h.n1; omega
  have tn := Tn_is (s := sa) hn h.na
  rw [tn] at f4
  have key := (h.same (by omega)).2
  have hl := take_len h.oka now k n
  refine ⟨h.oka.take now k n, h.okb, by rw [f1, h.ra], h.rb, by rw [f2, h.ma], h.mb, by rw [f3, h.ta], h.tb, by rw [f4]; exact Int.le_refl _, by rw [f4]; exact Int.le_trans h.nb h.na, h.n1, by have := h.la; omega, Nat.le_succ_of_le h.lb, ?_⟩
  rw [f4, ← key]
  rcases take_is h.oka now k n with ⟨c, e⟩ | ⟨c, c', e⟩ | ⟨c, c', c2, c3, e⟩ | ⟨c, c', c2, e⟩
  · rw [e]
  · rw [e]
  · rw [e]
  · rw [e]; exact F_put_other (fun e => hk e.symm)
/-- the same key's take, at both -/
theorem apart_one {most rate : Int} {i j : Nat} {now : Int} {sa sb : TS} (h : AI most rate i j now sa sb) (hi : i ≤ 150) (hj : j ≤ 151) (n : Int) : (takeV sa now 1 n).1 = (takeV sb now 1 n).1 ∧ AI most rate (i + 1) j now (takeV sa now 1 n).2 (takeV sb now 1 n).2 := by
  obtain ⟨f1, f2, f3, f4⟩ := take_fields h.oka now 1 n
  obtain ⟨g1, g2, g3, g4⟩ := take_fields h.okb now 1 n
  have hn : now ≤ 1099511627776 := by have := h.n1; omega
  have tn := Tn_is (s := sa) hn h.na
  have tm := Tn_is (s := sb) hn (Int.le_trans h.nb h.na)
  rw [tn] at f4
  rw [tm] at g4
  have key := (h.same (by omega)).1
  have hl := take_len h.oka now 1 n
  have hm := take_len h.okb now 1 n
  have la := later_len sa now
  have lb := later_len sb now
  have l1 := h.la
  have l2 := h.lb
  have ola := h.oka.later now
  have olb := h.okb.later now
  have ba := (F_bd ola 1).2
  have bb := (F_bd olb 1).2
  have fin : (F (takeV sa now 1 n).2 1 = F (takeV sb now 1 n).2 1) → (takeV sa now 1 n).1 = (takeV sb now 1 n).1 → (takeV sa now 1 n).1 = (takeV sb now 1 n).1 ∧ AI most rate (i + 1) j now (takeV sa now 1 n).2 (takeV sb now 1 n).2 := by
    intro e1 e2
    refine ⟨e2, h.oka.take now 1 n, h.okb.take now 1 n, by rw [f1, h.ra], by rw [g1, h.rb], by rw [f2, h.ma], by rw [g2, h.mb], by rw [f3, h.ta], by rw [g3, h.tb], by rw [f4]; exact Int.le_refl _, by rw [f4, g4]; exact Int.le_refl _, h.n1, by omega, by omega, ?_⟩
    rw [f4, g4, e1, Int.sub_self, Int.zero_mul, Int.add_zero]
    have b := (F_bd (h.okb.take now 1 n) 1).2
    rw [g2, h.mb] at b
    unfold mn
    split <;> omega
  rcases take_is h.oka now 1 n with ⟨c, e⟩ | ⟨c, c', e⟩ | ⟨c, c', c2, c3, e⟩ | ⟨c, c', c2, e⟩ <;> rcases take_is h.okb now 1 n with ⟨d, e'⟩ | ⟨d, d', e'⟩ | ⟨d, d', d2, d3, e'⟩ | ⟨d, d', d2, e'⟩ <;> first
    | (exfalso; omega)
    | (exfalso; rw [h.ra] at c3; omega)
    | (exfalso; rw [h.rb] at d3; omega)
    | (refine fin ?_ ?_ <;> rw [e, e']; first | exact key | (rw [F_put_same ola (by omega), F_put_same olb (by omega), key]))
/-! ### the walk -/
set_option maxHeartbeats 16000000 in
set_option maxRecDepth 100000 in
theorem apart_law (room most rate : Int) (A : Option Addr) (cp : Nat) (l : List Stp.St) (w : World) (hrw : Stp.Row w A l) (hc : l.length ≤ cp) (hmx : l.length ≤ 9223372036854775807) (hk : ∀ x ∈ l, x.a3 ≤ 9223372036854775807 ∧ 0 ≤ x.a2 ∧ x.a2 ≤ 18446744073709551615) : Calls Try.prog 6 #[.agg #[.int .i64 room, .int .i64 most, .int .i64 rate], .slice A l.length cp] w fun e w' => e = .returned (.bool true) ∧ Below w.heap.size w w' := by
  have HRW0 := Aside0.mk hrw
  have HC := Aside0.mk hc; have HMX := Aside0.mk hmx; have HK := Aside0.mk hk
  obtain ⟨L, hL⟩ : ∃ L, min l.length 150 = L := ⟨_, rfl⟩
  have HLQ := Aside0.mk hL
  have HL := Aside0.mk (show L ≤ l.length ∧ L ≤ 150 from by omega)
  have HA := Aside0.mk alive_c
  have huT := Try.underlying23
  have hu35 := Try.underlying35
  obtain ⟨i0, hi0, _, hs0, _⟩ := info_parts info35
  have hz := zeroT
  clear hrw hc hmx hk hL
  go_enter Try.func6, Try.ntmps6
  go_wp2_with fail
  obtain ⟨gz, hgz⟩ : ∃ gz, w.heap.size + 1 = gz := ⟨_, rfl⟩
  obtain ⟨gp, hgp⟩ : ∃ gp, w.heap.size + 1 + 1 = gp := ⟨_, rfl⟩
  have s1 : (w.alloc (.cells #[.int .i64 room, .int .i64 most, .int .i64 rate] 23)).heap.size = w.heap.size + 1 := Array.size_push ..
  have s2 : ((w.alloc (.cells #[.int .i64 room, .int .i64 most, .int .i64 rate] 23)).alloc (.cells #[.int .i64 0, .int .i64 0, .int .i64 0, .int .i64 0, .map none] 55)).heap.size = w.heap.size + 1 + 1 := by rw [show ((w.alloc (.cells #[.int .i64 room, .int .i64 most, .int .i64 rate] 23)).alloc (.cells #[.int .i64 0, .int .i64 0, .int .i64 0, .int .i64 0, .map none] 55)).heap.size = (w.alloc (.cells #[.int .i64 room, .int .i64 most, .int .i64 rate] 23)).heap.size + 1 from Array.size_push .., s1]
  have b1 := blk_new w (.cells #[.int .i64 room, .int .i64 most, .int .i64 rate] 23)
  have b2 := blk_new (w.alloc (.cells #[.int .i64 room, .int .i64 most, .int .i64 rate] 23)) (.cells #[.int .i64 0, .int .i64 0, .int .i64 0, .int .i64 0, .map none] 55)
  have b3 := blk_new ((w.alloc (.cells #[.int .i64 room, .int .i64 most, .int .i64 rate] 23)).alloc (.cells #[.int .i64 0, .int .i64 0, .int .i64 0, .int .i64 0, .map none] 55)) (.cells #[.pointer none, .pointer (some ⟨w.heap.size + 1, 0, none⟩)] 25)
  have b1 := blk_alloc (blk_alloc b1 (.cells #[.int .i64 0, .int .i64 0, .int .i64 0, .int .i64 0, .map none] 55)) (.cells #[.pointer none, .pointer (some ⟨w.heap.size + 1, 0, none⟩)] 25)
  have b2 := blk_alloc b2 (.cells #[.pointer none, .pointer (some ⟨w.heap.size + 1, 0, none⟩)] 25)
  rw [s1, hgz] at b2
  rw [s2, hgp, hgz] at b3
  rw [hgz] at b1
  have bel := below_alloc (below_alloc (below_alloc (Below.refl w.heap.size w) (.cells #[.int .i64 room, .int .i64 most, .int .i64 rate] 23)) (.cells #[.int .i64 0, .int .i64 0, .int .i64 0, .int .i64 0, .map none] 55)) (.cells #[.pointer none, .pointer (some ⟨w.heap.size + 1, 0, none⟩)] 25)
  rw [hgz] at bel
  rw [hgp, hgz]
  obtain ⟨wz, hwz⟩ : ∃ wz, ((w.alloc (.cells #[.int .i64 room, .int .i64 most, .int .i64 rate] 23)).alloc (.cells #[.int .i64 0, .int .i64 0, .int .i64 0, .int .i64 0, .map none] 55)).alloc (.cells #[.pointer none, .pointer (some ⟨gz, 0, none⟩)] 25) = wz := ⟨_, rfl⟩
  rw [hwz] at b1 b2 b3 bel ⊢
  have HBZ := Aside0.mk bel
  have HB1 := Aside0.mk b1; have HB2 := Aside0.mk b2
  have p0 := blk_cell b3 0; have p1 := blk_cell b3 1
  have HE := Aside0.mk (show wz.cell? ⟨gz, 4, none⟩ = some (.map none) from blk_cell b2 4)
  have HS := Aside0.mk (show w.heap.size < wz.heap.size from blk_lt b1)
  clear b1 b2 b3 bel s1 s2 hgz hgp hwz hz
  go_loop [24] (fun v => v = .int .i64 0 ∨ v = .int .i64 1 ∨ v = .int .i64 2) (fun v => (2 - intOf v).toNat)
  case atStart => exact .inl rfl
  case round =>
    rcases hrel with rfl | rfl | rfl
    · have HO := Aside0.mk (fun W : World => ok_nil W)
      go_wp2_with (first | (go_at_call 11; (with_reducible refine (no_take _ 1 1 1 _ (HO.out _)).mono ?_); rintro e w9 ⟨rfl, rfl⟩) | (go_at_call 15; (with_reducible refine (no_give _ 1 1 1 _ (HO.out _)).mono ?_); rintro e w9 ⟨rfl, rfl⟩) | (go_at_call 12; (with_reducible refine (no_fill _ 1 1 _ (HO.out _)).mono ?_); rintro e w9 ⟨rfl, rfl⟩) | (go_at_call 13; (with_reducible refine (no_when _ 1 1 1 _ (HO.out _)).mono ?_); rintro e w9 ⟨rfl, rfl⟩) | (go_at_call 21; (with_reducible refine (no_len _ 1 _ (HO.out _)).mono ?_); rintro e w9 ⟨rfl, rfl⟩) | (go_at_call 22; (with_reducible refine (no_now _  _ (HO.out _)).mono ?_); rintro e w9 ⟨rfl, rfl⟩))
      go_round
      case rel => exact .inr (.inl rfl)
      case measure => simp [intOf]
    · have HO := Aside0.mk (fun (_ : Unit) => ok_empty gz wz HE.out)
      go_wp2_with (first | (go_at_call 11; (with_reducible refine (no_take _ 1 1 1 _ (HO.out ())).mono ?_); rintro e w9 ⟨rfl, rfl⟩) | (go_at_call 15; (with_reducible refine (no_give _ 1 1 1 _ (HO.out ())).mono ?_); rintro e w9 ⟨rfl, rfl⟩) | (go_at_call 12; (with_reducible refine (no_fill _ 1 1 _ (HO.out ())).mono ?_); rintro e w9 ⟨rfl, rfl⟩) | (go_at_call 13; (with_reducible refine (no_when _ 1 1 1 _ (HO.out ())).mono ?_); rintro e w9 ⟨rfl, rfl⟩) | (go_at_call 21; (with_reducible refine (no_len _ 1 _ (HO.out ())).mono ?_); rintro e w9 ⟨rfl, rfl⟩) | (go_at_call 22; (with_reducible refine (no_now _  _ (HO.out ())).mono ?_); rintro e w9 ⟨rfl, rfl⟩))
      go_round
      case rel => exact .inr (.inr rfl)
      case measure => simp [intOf]
    · have f0 := blk_frozen HB1.out 0
      have q0 := blk_cell HB1.out 0
      go_upto_region 9 with (fail)
      have HB1' := Aside0.mk (blk_set HB1.out 0 (.int .i64 1024))
      have BEL := Aside0.mk (HBZ.out.setCell (p := ⟨w.heap.size, 0, none⟩) (Nat.le_refl _) (.int .i64 1024))
      clear HB1 HB2 HBZ p0 p1 HE HS f0 q0
      generalize wz.setCell ⟨w.heap.size, 0, none⟩ (.int .i64 1024) = w1 at HB1' BEL ⊢
      have K0 := Aside0.mk (show w1.cell? ⟨w.heap.size, 0, none⟩ = some (.int .i64 1024) from blk_cell HB1'.out 0)
      have K1 := Aside0.mk (show w1.cell? ⟨w.heap.size, 1, none⟩ = some (.int .i64 most) from blk_cell HB1'.out 1)
      have K2 := Aside0.mk (show w1.cell? ⟨w.heap.size, 2, none⟩ = some (.int .i64 rate) from blk_cell HB1'.out 2)
      have HB := Aside0.mk (Below.refl w1.heap.size w1)
      have HRW := Aside0.mk (HRW0.out.below BEL.out)
      have c0_ := K0.out; have c1_ := K1.out; have c2_ := K2.out
      by_cases h : MayB 1024 most rate
      · have HM := Aside0.mk h
        have HI0 := Aside0.mk (AI.start h)
        clear h
        go_wp2_with (first | (go_at_call 10; (with_reducible refine (Stp.short_c A l.length cp _ HC.out HMX.out _ HLQ.out).mono ?_); rintro e w3 ⟨rfl, rfl⟩) | (go_at_call 8; (with_reducible refine (garboardlaw33_theirs.calls _ _ _ _ _ _ _ rfl).mono ?_); rintro e w9 ⟨rfl, hb⟩; have n1_ := Aside0.mk (below_step HB.out hb); have n2_ := Aside0.mk (HTA.out.below hb); clear HB HTA hb; have HB := n1_; have HTA := n2_; clear n1_ n2_) | (go_at_call 8; (with_reducible refine (garboardlaw33_theirs.calls _ _ _ _ _ _ _ rfl).mono ?_); rintro e w9 ⟨rfl, hb⟩; have n1_ := Aside0.mk (below_step HB.out hb); clear HB hb; have HB := n1_; clear n1_; have c0_ := pw_cell_below HB.out K0.out; have c1_ := pw_cell_below HB.out K1.out; have c2_ := pw_cell_below HB.out K2.out) | (go_at_call 7; (with_reducible refine (new_c _ _ _ HM.out _).mono ?_); rintro e w9 ⟨gb, bb, rfl, hi, hb⟩; have NAB := Aside0.mk (show gb ≠ ga ∧ gb ≠ ba ∧ bb ≠ ga ∧ bb ≠ ba from ⟨Nat.ne_of_gt (Nat.lt_of_lt_of_le HTA.out.lt hi.ge), Nat.ne_of_gt (Nat.lt_of_lt_of_le HTA.out.ltb hi.ge), Nat.ne_of_gt (Nat.lt_of_lt_of_le HTA.out.lt hi.geb), Nat.ne_of_gt (Nat.lt_of_lt_of_le HTA.out.ltb hi.geb)⟩); have n1_ := Aside0.mk (below_step HB.out hb); have n2_ := Aside0.mk (HTA.out.below hb); have HTB := Aside0.mk (hi.of HB.out); clear HB HTA hi hb; have HB := n1_; have HTA := n2_; clear n1_ n2_) | (go_at_call 7; (with_reducible refine (new_c _ _ _ HM.out _).mono ?_); rintro e w9 ⟨ga, ba, rfl, hi, hb⟩; have n1_ := Aside0.mk (below_step HB.out hb); have HTA := Aside0.mk (hi.of HB.out); clear HB hi hb; have HB := n1_; clear n1_; have c0_ := pw_cell_below HB.out K0.out; have c1_ := pw_cell_below HB.out K1.out; have c2_ := pw_cell_below HB.out K2.out))
        clear c0_ c1_ c2_
        go_loopw [92, 13] (fun vi vn wr => ∃ (i : Nat) (now : Int) (sa sb : TS), vi = .int .i64 i ∧ vn = .int .i64 now ∧ Aside0 (i ≤ L) ∧ Aside0 (AI most rate i i now sa sb) ∧ Aside0 (IsT w1 wr ga ba sa) ∧ Aside0 (IsT w1 wr gb bb sb) ∧ Aside0 (Below w1.heap.size w1 wr)) (fun vi _ _ => (L - intOf vi).toNat)
        case atStart => exact ⟨0, 0, _, _, rfl, rfl, ⟨by omega⟩, HI0, HTA, HTB, HB⟩
        case round =>
          clear HTA HTB HB HI0
          obtain ⟨i, now, sa, sb, rfl, rfl, HIL, HAI, HTA, HTB, HB⟩ := hrel
          have l1 := HL.out.2
          have l2 := HIL.out
          by_cases hlt : i < L
          · obtain ⟨x, hx⟩ : ∃ x, l[i]? = some x := ⟨_, List.getElem?_eq_getElem (show i < l.length by have := HL.out.1; omega)⟩
            obtain ⟨a, rfl, h0, h1, h2, h3⟩ := HRW.out.cells hx
            have k0 := pw_cell_below HB.out h0; have k1 := pw_cell_below HB.out h1; have k2 := pw_cell_below HB.out h2; have k3 := pw_cell_below HB.out h3
            clear h0 h1 h2 h3
            obtain ⟨kx1, kx2, kx3⟩ := HK.out x (List.mem_of_getElem? hx)
            clear hx
            have bi0 := HAI.out.na; have bi1 := HAI.out.n1; have bi2 := HAI.out.oka.now1
            go_upto_region 17 with (fail)
            obtain ⟨wq, hwq⟩ : ∃ wq, wr.alloc (.cells #[.int .u8 x.a0, .int .i64 x.a1, .int .u64 x.a2, .int .i64 x.a3] 35 (0, 0)) = wq := ⟨_, rfl⟩
            have n0_ := Aside0.mk (show IsT w1 wq ga ba sa from hwq ▸ HTA.out.below (below_alloc (Below.refl _ _) _))
            have n3_ := Aside0.mk (show IsT w1 wq gb bb sb from hwq ▸ HTB.out.below (below_alloc (Below.refl _ _) _))
            have n1_ := Aside0.mk (show Below w1.heap.size w1 wq from hwq ▸ below_alloc HB.out _)
            have n2_ := Aside0.mk (show wq.heap[wr.heap.size]? = some (.cells #[.int .u8 x.a0, .int .i64 x.a1, .int .u64 x.a2, .int .i64 x.a3] 35 (0, 0)) from hwq ▸ blk_new wr _)
            have NSA := Aside0.mk (show wr.heap.size ≠ ga ∧ wr.heap.size ≠ ba from ⟨Nat.ne_of_gt HTA.out.lt, Nat.ne_of_gt HTA.out.ltb⟩)
            have NSC := Aside0.mk (show wr.heap.size ≠ gb ∧ wr.heap.size ≠ bb from ⟨Nat.ne_of_gt HTB.out.lt, Nat.ne_of_gt HTB.out.ltb⟩)
            rw [hwq]
            clear HTA HTB HB k0 k1 k2 k3 hwq
            have HTA := n0_; have HTB := n3_; have HB := n1_; have HSB := n2_
            clear n0_ n1_ n2_ n3_
            generalize wr.heap.size = sq at HSB NSA NSC ⊢
            have kl := blk_cell HSB.out 1; have kn := blk_cell HSB.out 3; have ks := blk_cell HSB.out 2
            go_cut [103] (fun s103 wx => s103 = .bool (decide (0 < x.a1 ∧ x.a1 < 1048576)) ∧ wq = wx)
            case first =>
              go_wp2_with fail
              all_goals go_meet
              all_goals exact ⟨by simp; try omega, rfl⟩
            case rest =>
              obtain ⟨rfl, rfl⟩ := hcut
              go_upto_if 103 with (fail)
              go_cut [13] (fun s13 wx => ∃ now' : Int, s13 = .int .i64 now' ∧ Aside0 (now ≤ now' ∧ now' ≤ now + 1048576) ∧ wq = wx)
              case first =>
                by_cases hq : 0 < x.a1 ∧ x.a1 < 1048576
                · rw [decide_eq_true hq]
                  obtain ⟨hq0, hq1⟩ := hq
                  go_wp2_with fail
                  go_meet
                  exact ⟨_, rfl, ⟨by omega⟩, rfl⟩
                · rw [decide_eq_false hq]
                  go_wp2_with fail
                  go_meet
                  exact ⟨_, rfl, ⟨by omega⟩, rfl⟩
              case rest =>
                obtain ⟨now', rfl, HN, rfl⟩ := hcut
                have ai := HAI.out.on HN.out.1 HN.out.2
                obtain ⟨p, q, sa1, ea⟩ : ∃ p q s, takeV sa now' x.a2 x.a3 = ((p, q), s) := ⟨_, _, _, rfl⟩
                have H1 := Aside0.mk (fun w' hT hB => take_c ga ba sa now' x.a2 x.a3 ⟨kx2, kx3⟩ kx1 w1 w' hT hB ai.oka p q sa1 ea)
                by_cases hk1 : x.a2 = 1
                · have hk1' : (x.a2 != 1) = false := by simp [hk1]
                  rw [hk1] at ea
                  obtain ⟨t1, t2⟩ := apart_one ai (by omega) (by omega) x.a3
                  obtain ⟨sb1, eb⟩ : ∃ s, takeV sb now' 1 x.a3 = ((p, q), s) := ⟨(takeV sb now' 1 x.a3).2, Prod.ext (by rw [← t1, ea]) rfl⟩
                  rw [ea, eb] at t2
                  have HAI2 := Aside0.mk t2
                  have H2 := Aside0.mk (fun w' hT hB => take_c gb bb sb now' x.a2 x.a3 ⟨kx2, kx3⟩ kx1 w1 w' hT hB ai.okb p q sb1 (by rw [hk1]; exact eb))
                  clear ea eb t1 t2 ai hk1 bi0 bi1 bi2
                  go_wp2_with (first | (go_at_call 11; (with_reducible refine (H1.out _ HTA.out HB.out).mono ?_); rintro e w9 ⟨rfl, hp⟩; have n0_ := Aside0.mk hp.1; have n1_ := Aside0.mk hp.2.1; have n2_ := Aside0.mk (HTB.out.keep hp.2.2 NAB.out.1 (by simpa using NAB.out.2.1) NAB.out.2.2.1 (by simpa using NAB.out.2.2.2)); have n3_ := Aside0.mk (hp.2.2.blk HSB.out NSA.out.1 (by simpa using NSA.out.2)); clear HTA HTB HB hp HSB; have HTA := n0_; have HB := n1_; have HTB := n2_; clear n0_ n1_ n2_; have HSB := n3_; clear n3_; have kn := blk_cell HSB.out 3; have ks := blk_cell HSB.out 2) | (go_at_call 11; (with_reducible refine (H2.out _ HTB.out HB.out).mono ?_); rintro e w9 ⟨rfl, hp⟩; have n0_ := Aside0.mk hp.1; have n1_ := Aside0.mk hp.2.1; have n2_ := Aside0.mk (HTA.out.keep hp.2.2 NAB.out.1.symm (by simpa using fun e => NAB.out.2.2.1 e.symm) (fun e => NAB.out.2.1 e.symm) (by simpa using fun e => NAB.out.2.2.2 e.symm)); have n3_ := Aside0.mk (hp.2.2.blk HSB.out NSC.out.1 (by simpa using NSC.out.2)); clear HTA HTB HB hp HSB; have HTB := n0_; have HB := n1_; have HTA := n2_; clear n0_ n1_ n2_; have HSB := n3_; clear n3_; have kn := blk_cell HSB.out 3; have ks := blk_cell HSB.out 2))
                  go_roundw
                  case rel => exact ⟨i + 1, now', sa1, sb1, by go_num, rfl, ⟨by omega⟩, HAI2, HTA, HTB, HB⟩
                  case measure => simp [intOf]; omega
                · have hk1' : (x.a2 != 1) = true := by simp [hk1]
                  have t2 := apart_other ai (by omega) (by omega) hk1 x.a3
                  rw [ea] at t2
                  have HAI2 := Aside0.mk t2
                  clear ea t2 ai hk1 bi0 bi1 bi2
                  go_wp2_with (first | (go_at_call 11; (with_reducible refine (H1.out _ HTA.out HB.out).mono ?_); rintro e w9 ⟨rfl, hp⟩; have n0_ := Aside0.mk hp.1; have n1_ := Aside0.mk hp.2.1; have n2_ := Aside0.mk (HTB.out.keep hp.2.2 NAB.out.1 (by simpa using NAB.out.2.1) NAB.out.2.2.1 (by simpa using NAB.out.2.2.2)); have n3_ := Aside0.mk (hp.2.2.blk HSB.out NSA.out.1 (by simpa using NSA.out.2)); clear HTA HTB HB hp HSB; have HTA := n0_; have HB := n1_; have HTB := n2_; clear n0_ n1_ n2_; have HSB := n3_; clear n3_; have kn := blk_cell HSB.out 3; have ks := blk_cell HSB.out 2))
                  go_roundw
                  case rel => exact ⟨i + 1, now', sa1, sb, by go_num, rfl, ⟨by omega⟩, HAI2, HTA, HTB, HB⟩
                  case measure => simp [intOf]; omega
          · have ai := HAI.out
            have oa := ai.oka; have ob := ai.okb
            obtain ⟨v, hv⟩ : ∃ v, F (laterV sa now) 1 = v := ⟨_, rfl⟩
            have hv2 : F (laterV sb now) 1 = v := by rw [← (ai.same (by omega)).1]; exact hv
            have K7 : (0 : Int) ≤ 1 ∧ (1 : Int) ≤ 18446744073709551615 := by decide
            have H1 := Aside0.mk (fun w' hT hB => fillm_c ga ba sa now 1 K7 w1 w' hT hB oa _ v rfl hv)
            have H2 := Aside0.mk (fun w' hT hB => fillm_c gb bb sb now 1 K7 w1 w' hT hB ob _ v rfl hv2)
            clear oa ob ai hv hv2 K7
            go_wp2_with (first | (go_at_call 12; (with_reducible refine (H1.out _ HTA.out HB.out).mono ?_); rintro e w9 ⟨rfl, hp⟩; have n0_ := Aside0.mk hp.1; have n1_ := Aside0.mk hp.2.1; have n2_ := Aside0.mk (HTB.out.keep hp.2.2 NAB.out.1 (by simpa using NAB.out.2.1) NAB.out.2.2.1 (by simpa using NAB.out.2.2.2)); clear HTA HTB HB hp; have HTA := n0_; have HB := n1_; have HTB := n2_; clear n0_ n1_ n2_) | (go_at_call 12; (with_reducible refine (H2.out _ HTB.out HB.out).mono ?_); rintro e w9 ⟨rfl, hp⟩; have n0_ := Aside0.mk hp.1; have n1_ := Aside0.mk hp.2.1; have n2_ := Aside0.mk (HTA.out.keep hp.2.2 NAB.out.1.symm (by simpa using fun e => NAB.out.2.2.1 e.symm) (fun e => NAB.out.2.1 e.symm) (by simpa using fun e => NAB.out.2.2.2 e.symm)); clear HTA HTB HB hp; have HTB := n0_; have HB := n1_; have HTA := n2_; clear n0_ n1_ n2_) | (go_at_call 9; (with_reducible refine (HA.out _).mono ?_); rintro e w9 ⟨rfl, hb⟩; have n1_ := Aside0.mk (below_step HB.out hb); clear HB hb; have HB := n1_; clear n1_))
            go_ret
            exact ⟨rfl, below_step BEL.out HB.out⟩
      · have HM := Aside0.mk h
        clear h
        go_wp2_with (first | (go_at_call 8; (with_reducible refine (garboardlaw33_theirs.calls _ _ _ _ _ _ _ rfl).mono ?_); rintro e w9 ⟨rfl, hb⟩; have n1_ := Aside0.mk (below_step HB.out hb); clear HB hb; have HB := n1_; clear n1_; have c0_ := pw_cell_below HB.out K0.out; have c1_ := pw_cell_below HB.out K1.out; have c2_ := pw_cell_below HB.out K2.out) | (go_at_call 7; (with_reducible refine (new_no _ _ _ HM.out _).mono ?_); rintro e w9 ⟨rfl, hb⟩; have n1_ := Aside0.mk (below_step HB.out hb); clear HB hb; have HB := n1_; clear n1_; have c0_ := pw_cell_below HB.out K0.out; have c1_ := pw_cell_below HB.out K1.out; have c2_ := pw_cell_below HB.out K2.out) | (go_at_call 9; (with_reducible refine (HA.out _).mono ?_); rintro e w9 ⟨rfl, hb⟩; have n1_ := Aside0.mk (below_step HB.out hb); clear HB hb; have HB := n1_; clear n1_))
        go_ret
        exact ⟨rfl, below_step BEL.out HB.out⟩
end Go.Proofs.Ytdojihocnkakjaa.Quo
