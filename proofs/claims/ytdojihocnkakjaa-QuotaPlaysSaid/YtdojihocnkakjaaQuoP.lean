/- Quotas, plain: what a key has behind later times and other takes; no condition but those that stand in each. -/
import Derived.Test.YtdojihocnkakjaaQuoW
namespace Go.Proofs.Ytdojihocnkakjaa.Quo
set_option linter.unusedVariables false
set_option linter.unusedSimpArgs false
open Go.RowKit Go.Proofs.Ytdojihocnkakjaa.PA Go.Proofs.YtdojihocnkakjaaW.PrintWords Go.Proofs.YtdojihocnkakjaaW.PrintLast Go.Proofs.YtdojihocnkakjaaW.PrintMore Go.Proofs.Ytdojihocnkakjaa.Tab Go.Proofs.Ytdojihocnkakjaa.SatMul
def F (s : TS) (k : Int) : Int := (fillV s k).1
theorem find_filter {f : Bk → Bool} {k : Int} : ∀ (l : List Bk), (l.map (·.key)).Nodup → (l.filter f).find? (fun q => q.key == k) = (l.find? (fun q => q.key == k)).filter f
  | [], _ => rfl
  | q :: l, h => by
    rw [List.map_cons, List.nodup_cons] at h
    have ih := find_filter (f := f) (k := k) l h.2
    by_cases hk : q.key = k
    · rw [List.find?_cons_of_pos (by simpa using hk)]
      cases hf : f q
      · rw [List.filter_cons_of_neg (by simp [hf]), ih]
        have : l.find? (fun q => q.key == k) = none := List.find?_eq_none.2 fun q' hq' e => h.1 (List.mem_map.2 ⟨q', hq', by rw [hk]; simpa using e⟩)
        rw [this]
        simp [hf, Option.filter]
      · rw [List.filter_cons_of_pos hf, List.find?_cons_of_pos (by simpa using hk)]
        simp [hf, Option.filter]
    · rw [List.find?_cons_of_neg (by simpa using hk)]
      cases hf : f q
      · rw [List.filter_cons_of_neg (by simp [hf]), ih]
      · rw [List.filter_cons_of_pos hf, List.find?_cons_of_neg (by simpa using hk), ih]
theorem F_def (s : TS) (k : Int) : F s k = match s.l.find? (fun q => q.key == k) with | some q => hasV s q.x q.y | none => s.most := by
  unfold F fillV lookV
  cases s.l.find? (fun q => q.key == k) <;> simp
theorem F_bd {s : TS} (h : Ok s) (k : Int) : 0 ≤ F s k ∧ F s k ≤ s.most := fill_bd h k
def Tn (s : TS) (now : Int) : Int := (laterT s now).now
theorem Tn_is {s : TS} {now : Int} (h : now ≤ 1099511627776) (h' : s.now ≤ now) : Tn s now = now := by
  unfold Tn laterT mx
  rw [if_pos h]
  dsimp only
  split <;> omega
theorem Tn_ge (s : TS) (now : Int) : s.now ≤ Tn s now := by
  unfold Tn laterT mx
  split
  · dsimp only; split <;> omega
  · exact Int.le_refl _
theorem later_fields (s : TS) (now : Int) : (laterV s now).room = s.room ∧ (laterV s now).most = s.most ∧ (laterV s now).rate = s.rate ∧ (laterV s now).now = Tn s now ∧ (laterT s now).most = s.most ∧ (laterT s now).rate = s.rate ∧ (laterT s now).l = s.l := by
  unfold laterV Tn laterT
  by_cases h : now ≤ 1099511627776
  · simp [h]
  · simp [h]
theorem later_len (s : TS) (now : Int) : (laterV s now).l.length ≤ s.l.length := by
  have := (later_fields s now).2.2.2.2.2.2
  unfold laterV
  dsimp only
  rw [this]
  exact List.length_filter_le _ _
theorem later_mem {s : TS} {now : Int} {q : Bk} (h : q ∈ (laterV s now).l) : q ∈ s.l := by
  have := (later_fields s now).2.2.2.2.2.2
  unfold laterV at h
  dsimp only at h
  rw [this] at h
  exact (List.mem_filter.1 h).1
theorem F_later {s : TS} (h : Ok s) (now k : Int) : F (laterV s now) k = mn (F s k + (Tn s now - s.now) * s.rate) s.most := by
  obtain ⟨e1, e2, e3, e4, e5, e6, e7⟩ := later_fields s now
  have hT := Tn_ge s now
  have hd : 0 ≤ (Tn s now - s.now) * s.rate := Int.mul_nonneg (by omega) h.rate1
  rw [F_def, F_def, e2]
  have el : (laterV s now).l = s.l.filter (fun q => !fullB (laterT s now) q) := by unfold laterV; dsimp only; rw [e7]
  rw [el, find_filter _ h.keys]
  cases hf : s.l.find? (fun q => q.key == k) with
  | none =>
    show s.most = mn (s.most + (Tn s now - s.now) * s.rate) s.most
    unfold mn; split <;> omega
  | some q =>
    have hq := h.fills q (find_some hf).1
    have ex : (Tn s now - q.y) * s.rate = (s.now - q.y) * s.rate + (Tn s now - s.now) * s.rate := by rw [← Int.add_mul]; congr 1; omega
    have hv : hasV (laterT s now) q.x q.y = mn (q.x + (Tn s now - q.y) * s.rate) s.most := by unfold hasV; rw [e5, e6]; rfl
    show _ = mn (hasV s q.x q.y + _) _
    have goal : hasV (laterT s now) q.x q.y = mn (hasV s q.x q.y + (Tn s now - s.now) * s.rate) s.most := by
      rw [hv, ex]
      unfold hasV mn
      (repeat' split) <;> omega
    cases hb : fullB (laterT s now) q
    · simp only [Option.filter, hb, Bool.not_false, if_true]
      exact goal
    · simp only [Option.filter, hb, Bool.not_true, Bool.false_eq_true, if_false]
      rw [← goal]
      unfold fullB at hb
      have := eq_of_beq hb
      rw [this, e5]
theorem F_put_same {t : TS} (h : Ok t) {k x : Int} (hx : x ≤ t.most) : F { t with l := putV t.l k x t.now } k = x := by
  rw [F_def]
  have : ({ t with l := putV t.l k x t.now } : TS).l.find? (fun q => q.key == k) = some ⟨k, x, t.now⟩ := by
    show (putV t.l k x t.now).find? _ = _
    unfold putV
    rw [List.find?_cons_of_pos (by simp)]
  rw [this]
  show hasV _ x t.now = x
  unfold hasV mn
  simp only [Int.sub_self, Int.zero_mul]
  split <;> omega
theorem F_put_other {t : TS} {k k' x : Int} (hk : k' ≠ k) : F { t with l := putV t.l k x t.now } k' = F t k' := by
  rw [F_def, F_def]
  have : ({ t with l := putV t.l k x t.now } : TS).l.find? (fun q => q.key == k') = t.l.find? (fun q => q.key == k') := by
    show (putV t.l k x t.now).find? _ = _
    unfold putV
    rw [List.find?_cons_of_neg (by simpa using fun e => hk e.symm)]
    exact Maps.find_filter_keep (fun p hp => by
      have : p.key = k' := by simpa using hp
      rw [this]; simpa using hk) t.l
  rw [this]
  rfl
/-! ### what a take does -/
theorem take_is {s : TS} (h : Ok s) (now k n : Int) :
    (n < 1 ∧ takeV s now k n = ((false, 1), laterV s now)) ∨
    (1 ≤ n ∧ F (laterV s now) k < n ∧ takeV s now k n = ((false, 0), laterV s now)) ∨
    (1 ≤ n ∧ n ≤ F (laterV s now) k ∧ hasK (laterV s now).l k = false ∧ ((laterV s now).l.length : Int) = s.room ∧ takeV s now k n = ((false, 9), laterV s now)) ∨
    (1 ≤ n ∧ n ≤ F (laterV s now) k ∧ ¬ (hasK (laterV s now).l k = false ∧ ((laterV s now).l.length : Int) = s.room) ∧ takeV s now k n = ((true, 0), { laterV s now with l := putV (laterV s now).l k (F (laterV s now) k - n) (laterV s now).now })) := by
  have e1 := (later_fields s now).1
  unfold takeV
  dsimp only
  rw [fill_has, e1]
  by_cases c1 : n < 1
  · exact .inl ⟨c1, if_pos c1⟩
  rw [if_neg c1]
  by_cases c2 : F (laterV s now) k < n
  · exact .inr (.inl ⟨by omega, c2, if_pos c2⟩)
  rw [if_neg (show ¬ (fillV (laterV s now) k).1 < n from c2)]
  by_cases c3 : hasK (laterV s now).l k = false ∧ ((laterV s now).l.length : Int) = s.room
  · exact .inr (.inr (.inl ⟨by omega, by omega, c3.1, c3.2, if_pos c3⟩))
  · exact .inr (.inr (.inr ⟨by omega, by omega, c3, if_neg c3⟩))
theorem hasK_false {l : List Bk} {k : Int} (h : hasK l k = false) (hl : ∀ q ∈ l, q.key = k) : l = [] := by
  cases l with
  | nil => rfl
  | cons q l =>
    unfold hasK at h
    rw [List.any_cons, hl q List.mem_cons_self] at h
    simp at h
theorem take_one {s : TS} (h : Ok s) (now k n : Int) (hk : ∀ q ∈ s.l, q.key = k) (hn : 1 ≤ n) (hf : n ≤ F (laterV s now) k) : takeV s now k n = ((true, 0), { laterV s now with l := putV (laterV s now).l k (F (laterV s now) k - n) (laterV s now).now }) := by
  rcases take_is h now k n with ⟨c, e⟩ | ⟨c, c', e⟩ | ⟨c, c', c2, c3, e⟩ | ⟨c, c', c2, e⟩
  · omega
  · omega
  · have := hasK_false c2 (fun q hq => hk q (later_mem hq))
    rw [this] at c3
    have := h.room1
    simp at c3
    omega
  · exact e
theorem take_keys {s : TS} (h : Ok s) (now k n : Int) (hk : ∀ q ∈ s.l, q.key = k) : ∀ q ∈ (takeV s now k n).2.l, q.key = k := by
  rcases take_is h now k n with ⟨c, e⟩ | ⟨c, c', e⟩ | ⟨c, c', c2, c3, e⟩ | ⟨c, c', c2, e⟩
  · rw [e]; exact fun q hq => hk q (later_mem hq)
  · rw [e]; exact fun q hq => hk q (later_mem hq)
  · rw [e]; exact fun q hq => hk q (later_mem hq)
  · rw [e]
    intro q hq
    rcases List.mem_cons.1 hq with rfl | hq
    · rfl
    · exact hk q (later_mem (List.mem_filter.1 hq).1)
theorem take_len {s : TS} (h : Ok s) (now k n : Int) : (takeV s now k n).2.l.length ≤ s.l.length + 1 := by
  have hl := later_len s now
  rcases take_is h now k n with ⟨c, e⟩ | ⟨c, c', e⟩ | ⟨c, c', c2, c3, e⟩ | ⟨c, c', c2, e⟩
  · rw [e]; exact Nat.le_succ_of_le hl
  · rw [e]; exact Nat.le_succ_of_le hl
  · rw [e]; exact Nat.le_succ_of_le hl
  · rw [e]
    show (putV _ _ _ _).length ≤ _
    unfold putV
    rw [List.length_cons]
    have := List.length_filter_le (fun q => !(q.key == k)) (laterV s now).l
    omega
theorem take_fields {s : TS} (h : Ok s) (now k n : Int) : (takeV s now k n).2.room = s.room ∧ (takeV s now k n).2.most = s.most ∧ (takeV s now k n).2.rate = s.rate ∧ (takeV s now k n).2.now = Tn s now := by
  obtain ⟨e1, e2, e3, e4, _⟩ := later_fields s now
  rcases take_is h now k n with ⟨c, e⟩ | ⟨c, c', e⟩ | ⟨c, c', c2, c3, e⟩ | ⟨c, c', c2, e⟩ <;> rw [e] <;> exact ⟨e1, e2, e3, e4⟩
theorem ok_new {room most rate : Int} (h : MayB room most rate) : Ok ⟨room, most, rate, 0, []⟩ := by
  unfold MayB at h
  obtain ⟨a, b, c, d, e, f⟩ := h
  exact ⟨a, b, c, d, e, f, Int.le_refl 0, by show (0 : Int) ≤ 1099511627776; decide, fun q hq => absurd hq (List.not_mem_nil), by show ((0 : Nat) : Int) ≤ room; omega, List.nodup_nil⟩
/-! ### QuotaWhen -/
theorem when_script {room most rate : Int} (h : MayB room most rate) (first n : Int) (hn0 : -9223372036854775808 ≤ n) (hn1 : n ≤ 9223372036854775807) : ∃ b1 e1 s1 at_ t1, takeV ⟨room, most, rate, 0, []⟩ 0 7 first = ((b1, e1), s1) ∧ Ok s1 ∧ whenV s1 0 7 n = at_ ∧ laterV s1 0 = t1 ∧ Ok t1 ∧ 0 ≤ at_ ∧ at_ ≤ 1099511627776 ∧
    ((n < 1 ∨ (1 ≤ n ∧ most < n) ∨ (1 ≤ n ∧ n ≤ most ∧ at_ = 1099511627776)) ∨ (1 ≤ n ∧ n ≤ most ∧ at_ = 0 ∧ ∃ t3, takeV t1 at_ 7 n = ((true, 0), t3)) ∨
     (1 ≤ n ∧ n ≤ most ∧ at_ < 1099511627776 ∧ 0 < at_ ∧ ∃ t2 t3, takeV t1 (at_ - 1) 7 n = ((false, 0), t2) ∧ Ok t2 ∧ takeV t2 at_ 7 n = ((true, 0), t3))) := by
  have o0 := ok_new h
  have o1 := o0.take 0 7 first
  have k1 := take_keys o0 0 7 first (fun q hq => by cases hq)
  obtain ⟨f1, f2, f3, f4⟩ := take_fields o0 0 7 first
  rcases he : takeV ⟨room, most, rate, 0, []⟩ 0 7 first with ⟨⟨b1, e1⟩, s1⟩
  rw [he] at o1 k1 f1 f2 f3 f4
  dsimp only at o1 k1 f1 f2 f3 f4
  rw [Tn_is (by decide) (show (0 : Int) ≤ 0 by decide)] at f4
  have o2 := o1.later 0
  obtain ⟨g1, g2, g3, g4, _⟩ := later_fields s1 0
  have hF := F_later o1 0 7
  rw [Tn_is (by decide) (by omega)] at g4 hF
  rw [f4] at hF
  simp only [Int.sub_self, Int.zero_mul, Int.add_zero] at hF
  have b1' := F_bd o1 7
  rw [f2] at b1' hF
  have hF1 : F (laterV s1 0) 7 = F s1 7 := by rw [hF]; unfold mn; split <;> omega
  obtain ⟨f, hf⟩ : ∃ f, F s1 7 = f := ⟨_, rfl⟩
  rw [hf] at b1' hF1
  have hm := o1.most2
  have hr1 := o1.rate1
  rw [f2] at hm
  rw [f3] at hr1
  have k2 : ∀ q ∈ (laterV s1 0).l, q.key = 7 := fun q hq => k1 q (later_mem hq)
  have hw : whenV s1 0 7 n = if cl (n - f) ≤ 0 then 0 else if n > most ∨ rate = 0 then 1099511627776 else mn (0 + (cl (n - f) - 1) / rate + 1) 1099511627776 := by
    unfold whenV
    dsimp only
    rw [show (fillV (laterV s1 0) 7).1 = f from hF1, g4, g2, g3, f2, f3]
  have hcl : cl (n - f) = n - f ∨ (cl (n - f) ≤ 0 ∧ n - f ≤ 0) := by unfold cl; (repeat' split) <;> omega
  have zz : ∀ {x : Int}, takeV (laterV s1 0) x 7 n = takeV (laterV s1 0) x 7 n := rfl
  have b2 : ∀ now : Int, 0 ≤ now → now ≤ 1099511627776 → F (laterV (laterV s1 0) now) 7 = mn (f + now * rate) most ∧ (laterV (laterV s1 0) now).now = now := by
    intro now h0 h1
    have q := F_later o2 now 7
    have t := Tn_is (s := laterV s1 0) h1 (by rw [g4]; exact h0)
    rw [t, hF1, g4, g3, g2, f2, f3, Int.sub_zero] at q
    exact ⟨q, by rw [(later_fields (laterV s1 0) now).2.2.2.1, t]⟩
  refine ⟨b1, e1, s1, whenV s1 0 7 n, laterV s1 0, rfl, o1, rfl, rfl, o2, ?_⟩
  by_cases c1 : cl (n - f) ≤ 0
  · have hle : n ≤ f := by omega
    rw [hw, if_pos c1]
    refine ⟨by omega, by omega, ?_⟩
    by_cases hn : n < 1
    · exact .inl (.inl hn)
    · refine .inr (.inl ⟨by omega, by omega, rfl, _, take_one o2 0 7 n k2 (by omega) ?_⟩)
      rw [(b2 0 (by omega) (by omega)).1]
      unfold mn; split <;> omega
  · have hle : f < n := by omega
    have ecl : cl (n - f) = n - f := by omega
    rw [hw, if_neg c1, ecl]
    by_cases c2 : n > most ∨ rate = 0
    · rw [if_pos c2]
      refine ⟨by omega, by omega, .inl ?_⟩
      by_cases c3 : n > most
      · exact .inr (.inl ⟨by omega, c3⟩)
      · exact .inr (.inr ⟨by omega, by omega, rfl⟩)
    · rw [if_neg c2]
      have hr : 1 ≤ rate := by omega
      obtain ⟨d, hd⟩ : ∃ d, (n - f - 1) / rate = d := ⟨_, rfl⟩
      have d0 : 0 ≤ d := by rw [← hd]; exact Int.ediv_nonneg (by omega) (by omega)
      have d1 : d * rate ≤ n - f - 1 := by rw [← hd]; exact Int.ediv_mul_le _ (by omega)
      have d2 : n - f - 1 < (d + 1) * rate := by
        have := Int.lt_ediv_add_one_mul_self (n - f - 1) (show 0 < rate by omega)
        rw [hd] at this; exact this
      rw [hd]
      obtain ⟨at_, hat⟩ : ∃ a, mn (0 + d + 1) 1099511627776 = a := ⟨_, rfl⟩
      rw [hat]
      have ha : (at_ = d + 1 ∧ d + 1 ≤ 1099511627776) ∨ (at_ = 1099511627776 ∧ 1099511627776 < d + 1) := by rw [← hat]; unfold mn; split <;> omega
      refine ⟨by omega, by omega, ?_⟩
      by_cases c3 : at_ = 1099511627776
      · exact .inl (.inr (.inr ⟨by omega, by omega, c3⟩))
      · refine .inr (.inr ⟨by omega, by omega, by omega, by omega, ?_⟩)
        obtain rfl : at_ = d + 1 := by omega
        rw [show d + 1 - 1 = d by omega]
        obtain ⟨q1, q2⟩ := b2 d d0 (by omega)
        have ml : F (laterV (laterV s1 0) d) 7 < n := by rw [q1]; unfold mn; split <;> omega
        have mo := o2.later d
        have st : takeV (laterV s1 0) d 7 n = ((false, 0), laterV (laterV s1 0) d) := by
          rcases take_is o2 d 7 n with ⟨c, e⟩ | ⟨c, c', e⟩ | ⟨c, c', c2, c3, e⟩ | ⟨c, c', c2, e⟩
          · omega
          · exact e
          · omega
          · omega
        refine ⟨_, _, st, mo, take_one mo (d + 1) 7 n (fun q hq => k2 q (later_mem hq)) (by omega) ?_⟩
        obtain ⟨_, l2, l3, l4, _⟩ := later_fields (laterV s1 0) d
        rw [F_later mo, Tn_is (by omega) (by rw [q2]; omega), q2, q1, l3, g3, f3, l2, g2, f2, show d + 1 - d = 1 by omega, Int.one_mul]
        have e2 : (d + 1) * rate = d * rate + rate := by rw [Int.add_mul, Int.one_mul]
        unfold mn
        (repeat' split) <;> omega
end Go.Proofs.Ytdojihocnkakjaa.Quo
