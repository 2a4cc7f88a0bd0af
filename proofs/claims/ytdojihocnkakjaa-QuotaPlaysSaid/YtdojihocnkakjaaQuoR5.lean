/- The document's Give, When; the walks; no condition but those that stand in each. -/
import Derived.Test.YtdojihocnkakjaaQuoR4
namespace Go.Proofs.Ytdojihocnkakjaa.Quo
set_option linter.unusedVariables false
set_option linter.unusedSimpArgs false
open Go.RowKit Go.Proofs.Ytdojihocnkakjaa.PA Go.Proofs.YtdojihocnkakjaaW.PrintWords Go.Proofs.YtdojihocnkakjaaW.PrintLast Go.Proofs.YtdojihocnkakjaaW.PrintMore Go.Proofs.Ytdojihocnkakjaa.Tab Go.Proofs.Ytdojihocnkakjaa.SatMul Go.Proofs.Ytdojihocnkakjaa.Lst
attribute [local go_sem] max2_int min2_int max_two min_two max_three min_three max_four min_four
theorem PostR.trans {w0 w W W' : World} {g : Nat} {v v1 : Value} {r2 : RS} (hB : Below w0.heap.size w0 W) (hk : KeepBut w W g v.ownBlock) (ho : v1.ownBlock = v.ownBlock ∨ v1.ownBlock = none ∨ ∃ b, v1.ownBlock = some b ∧ w.heap.size ≤ b) (h : PostR w0 W g v1 r2 W') : PostR w0 w g v r2 W' := by
  obtain ⟨v', h1, h2, h3, h4⟩ := h
  refine ⟨v', h1, h2, ?_, ?_⟩
  · rcases ho with ho | ho | ⟨b, ho, hb⟩
    · exact KeepBut.trans hk (by rw [← ho]; exact h3) (.inl rfl)
    · rw [ho] at h3; exact KeepBut.trans hk (keepN h3 _) (.inl rfl)
    · exact KeepBut.trans hk h3 (.inr ⟨b, ho, hb⟩)
  · rcases h4 with h4 | h4 | ⟨b, h4, hb⟩
    · rw [h4]; exact ho
    · exact .inr (.inl h4)
    · exact .inr (.inr ⟨b, h4, Nat.le_trans hk.1 hb⟩)
def rputV (t : RS) (k n : Int) : RS :=
  match rplace k t.l 0 with
  | none => t
  | some i => { t with l := t.l.set i ⟨k, mn ((t.l.getD i ⟨0, 0⟩).f + mn n t.most) t.most⟩ }
def rgiveV (r : RS) (now k n : Int) : Int × RS :=
  let t := rlaterV r now
  if n < 1 then (1, t) else (0, rlaterV (rputV t k n) (rputV t k n).T)
theorem OkR.put {t : RS} (h : OkR t) (k : Int) {n : Int} (hn : 1 ≤ n) : OkR (rputV t k n) := by
  unfold rputV
  cases hp : rplace k t.l 0 with
  | none => exact h
  | some i =>
    obtain ⟨_, b, hb, _⟩ := rplace_some hp
    rw [Nat.sub_zero] at hb
    have hf := h.fills b (List.mem_of_getElem? hb)
    refine ⟨h.1, h.2, h.3, h.4, h.5, h.6, h.7, h.8, fun q hq => ?_, ?_⟩
    · rcases List.mem_or_eq_of_mem_set hq with hq | rfl
      · exact h.fills q hq
      · simp only [List.getD_eq_getElem?_getD, hb, Option.getD_some]
        have := h.most1
        show 0 ≤ mn (b.f + mn n t.most) t.most ∧ mn (b.f + mn n t.most) t.most ≤ t.most
        unfold mn
        (repeat' split) <;> omega
    · show ((t.l.set i _).length : Int) ≤ t.room
      rw [List.length_set]; exact h.len
set_option maxHeartbeats 16000000 in
theorem rgive_c (g : Nat) (v : Value) (r : RS) (now k n : Int) (hn1 : n ≤ 9223372036854775807) (w0 w : World) (hR : IsR w0 w g v r) (hB : Below w0.heap.size w0 w) (hO : OkR r) (e0 : Int) (t' : RS) (hr : rgiveV r now k n = (e0, t')) :
    Calls Try.prog 16 #[.pointer (some ⟨g, 0, none⟩), .int .i64 now, .int .u64 k, .int .i64 n] w fun e w' => e = .returned (.int .i64 e0) ∧ PostR w0 w g v t' w' := by
  have hO1 := hO.later now
  obtain ⟨t, ht⟩ : ∃ t, rlaterV r now = t := ⟨_, rfl⟩
  have H1 := Aside0.mk (rlater_c g v r now w0 w hR hB hO t ht)
  rw [ht] at hO1
  have HL := Aside0.mk (show t.l.length ≤ 1024 by have := hO1.len; have := hO1.room2; omega)
  obtain ⟨o, ho⟩ : ∃ o, rplace k t.l 0 = o := ⟨_, rfl⟩
  have HPL := Aside0.mk ho
  unfold rgiveV at hr
  dsimp only at hr
  rw [ht] at hr
  have HOT := Aside0.mk hO1
  obtain ⟨i0, hi0, _, hs0, _⟩ := info_parts info66
  have HGE := Aside0.mk hR.ge
  have m2 := hO1.most2
  have m1 := hO1.most1
  clear hR hB hO hO1 ht
  by_cases c1 : n < 1
  · rw [if_pos c1] at hr
    simp only [Prod.mk.injEq] at hr
    obtain ⟨rfl, rfl⟩ := hr
    go_enter Try.func16, Try.ntmps16
    go_wp2_with (first | (go_at_call 18; (with_reducible refine H1.out.mono ?_); rintro e w9 ⟨rfl, v', hp⟩; have HP := Aside0.mk hp; clear hp H1))
    go_ret
    exact ⟨rfl, v', HP.out⟩
  rw [if_neg c1] at hr
  simp only [Prod.mk.injEq] at hr
  obtain ⟨rfl, hr⟩ := hr
  have hOP := HOT.out.put k (show 1 ≤ n by omega)
  obtain ⟨u, hu⟩ : ∃ u, rputV t k n = u := ⟨_, rfl⟩
  rw [hu] at hr hOP
  have HOU := Aside0.mk hOP
  have HRU := Aside0.mk hr
  have hu' := hu
  unfold rputV at hu'
  rw [ho] at hu'
  clear hr hOP hu
  cases o with
  | none =>
    dsimp only at hu'
    subst hu'
    obtain ⟨T, hT⟩ : ∃ T, t.T = T := ⟨_, rfl⟩
    have HTT := Aside0.mk hT
    rw [hT] at HRU
    clear hT
    go_enter Try.func16, Try.ntmps16
    go_wp2_with (first | (go_at_call 18; (with_reducible refine H1.out.mono ?_); rintro e w9 ⟨rfl, v', hp⟩; have HP := Aside0.mk hp; clear hp H1) | (go_at_call 29; (with_reducible refine (place_v g v' t k w0 _ HP.out.1 HL.out _ HPL.out (-1) rfl).mono ?_); rintro e w9 ⟨rfl, rfl⟩; have hc3 := HP.out.1.c3; rw [HTT.out] at hc3) | (go_at_call 18; (with_reducible refine (rlater_c g v' t T w0 _ HP.out.1 HP.out.2.1 HOU.out t' HRU.out).mono ?_); rintro e w9 ⟨rfl, hp⟩; have HQ := Aside0.mk (PostR.trans HP.out.2.1 HP.out.2.2.1 HP.out.2.2.2 hp); clear hp))
    go_ret
    exact ⟨rfl, HQ.out⟩
  | some i =>
    dsimp only at hu'
    obtain ⟨_, b, hb, hbk⟩ := rplace_some ho
    rw [Nat.sub_zero] at hb
    simp only [List.getD_eq_getElem?_getD, hb, Option.getD_some] at hu'
    have hlt : i < t.l.length := (List.getElem?_eq_some_iff.1 hb).1
    have HBB := Aside0.mk hb
    have HBK := Aside0.mk hbk
    have fb := HOT.out.fills b (List.mem_of_getElem? hb)
    obtain ⟨q, hq⟩ : ∃ q, mn n t.most = q := ⟨_, rfl⟩
    obtain ⟨f, hf⟩ : ∃ f, mn (b.f + q) t.most = f := ⟨_, rfl⟩
    rw [hq, hf] at hu'
    obtain ⟨most, hmost⟩ : ∃ z, t.most = z := ⟨_, rfl⟩
    have HMO := Aside0.mk hmost
    rw [hmost] at hq hf fb m1 m2
    have hq' : (most < n ∧ most = q) ∨ (n ≤ most ∧ n = q) := by rw [← hq]; unfold mn; split <;> omega
    have hf' : (most < b.f + q ∧ most = f) ∨ (b.f + q ≤ most ∧ b.f + q = f) := by rw [← hf]; unfold mn; split <;> omega
    have e1 : (if most < n then most else n) = q := by rw [← hq]; unfold mn; (repeat' split) <;> omega
    have e2 : IntKind.i64.wrap (b.f + q) = b.f + q := by rw [i64_w]; exact Base.w64 (by omega) (by omega)
    have e3 : (if most < b.f + q then most else b.f + q) = f := by rw [← hf]; unfold mn; (repeat' split) <;> omega
    have E := Aside0.mk (And.intro e1 (And.intro e2 e3))
    have HU := Aside0.mk hu'
    have eT : u.T = t.T := by rw [← hu']
    obtain ⟨T, hT⟩ : ∃ T, t.T = T := ⟨_, rfl⟩
    have HTT := Aside0.mk hT
    have EUT := Aside0.mk (eT.trans hT)
    rw [EUT.out] at HRU
    clear hb hbk ho hu' hq hf e1 e2 e3 hmost hT eT
    go_enter Try.func16, Try.ntmps16
    go_wp2_with (first | (go_at_call 18; (with_reducible refine H1.out.mono ?_); rintro e w9 ⟨rfl, v', hp⟩; have HP := Aside0.mk hp; clear hp H1) | (go_at_call 29; (with_reducible refine (place_v g v' t k w0 _ HP.out.1 HL.out _ HPL.out (i : Int) rfl).mono ?_); rintro e w9 ⟨rfl, rfl⟩; have hc4 := HP.out.1.c4; obtain ⟨A, c, rfl, hac, ham⟩ := HP.out.1.ls.form; obtain ⟨gb, rfl, hgb, _, hcl, hfz, _⟩ := HP.out.1.ls.at HBB.out; have k1 : World.cell? _ ⟨gb, i * 2 + 1, none⟩ = some (.int .i64 b.f) := hcl 1 _ rfl; have f1 := hfz (i * 2 + 1); clear hcl))
    obtain ⟨e1, e2, e3⟩ := E.out
    have hc1 := HP.out.1.c1
    rw [HMO.out] at hc1
    rcases hq' with ⟨hq0, rfl⟩ | ⟨hq0, rfl⟩ <;> rcases hf' with ⟨hf0, rfl⟩ | ⟨hf0, rfl⟩
    · go_region
      have hv : (Value.slice (some ⟨gb, 0, none⟩) t.l.length c).ownBlock = some gb := rfl
      have HS := Aside0.mk (show IsR w0 (World.drew (World.setCell _ ⟨gb, i * 2 + 1, none⟩ (.int .i64 most))) g (.slice (some ⟨gb, 0, none⟩) t.l.length c) u from by
        rw [← HU.out]
        exact ⟨blk_drew (blk_far HP.out.1.1 (p := ⟨gb, i * 2 + 1, none⟩) (by show g ≠ gb; have := HP.out.1.ne; rw [hv] at this; simpa using this) _), HP.out.1.ls.put (x' := ⟨k, _⟩) (j := 1) HBB.out (by decide) (by rw [← HBK.out]; rfl), HGE.out⟩)
      have HBS := Aside0.mk (below_drew (below_set (g := gb) (j := i * 2 + 1) (v := .int .i64 most) HP.out.2.1 hgb))
      have HKS := Aside0.mk (show KeepBut w (World.drew (World.setCell _ ⟨gb, i * 2 + 1, none⟩ (.int .i64 most))) g v.ownBlock from by
        refine keep_drew ?_
        rcases HP.out.2.2.2 with q | q | ⟨b', q, q'⟩
        · exact KeepBut.trans HP.out.2.2.1 (by rw [← q]; exact set_own hv _) (.inl rfl)
        · rw [hv] at q; cases q
        · rw [hv] at q
          cases q
          exact keep_far HP.out.2.2.1 (p := ⟨gb, i * 2 + 1, none⟩) q' _)
      clear hc4 hc1 k1 f1
      have hc3 := HS.out.c3
      rw [EUT.out] at hc3
      go_wp2_with (first | (go_at_call 18; (with_reducible refine (rlater_c g _ u T w0 _ HS.out HBS.out HOU.out t' HRU.out).mono ?_); rintro e w9 ⟨rfl, hp⟩; have HQ := Aside0.mk (PostR.trans HBS.out HKS.out HP.out.2.2.2 hp); clear hp))
      go_ret
      exact ⟨rfl, HQ.out⟩
    · go_region
      have hv : (Value.slice (some ⟨gb, 0, none⟩) t.l.length c).ownBlock = some gb := rfl
      have HS := Aside0.mk (show IsR w0 (World.drew (World.setCell _ ⟨gb, i * 2 + 1, none⟩ (.int .i64 (b.f + most)))) g (.slice (some ⟨gb, 0, none⟩) t.l.length c) u from by
        rw [← HU.out]
        exact ⟨blk_drew (blk_far HP.out.1.1 (p := ⟨gb, i * 2 + 1, none⟩) (by show g ≠ gb; have := HP.out.1.ne; rw [hv] at this; simpa using this) _), HP.out.1.ls.put (x' := ⟨k, _⟩) (j := 1) HBB.out (by decide) (by rw [← HBK.out]; rfl), HGE.out⟩)
      have HBS := Aside0.mk (below_drew (below_set (g := gb) (j := i * 2 + 1) (v := .int .i64 (b.f + most)) HP.out.2.1 hgb))
      have HKS := Aside0.mk (show KeepBut w (World.drew (World.setCell _ ⟨gb, i * 2 + 1, none⟩ (.int .i64 (b.f + most)))) g v.ownBlock from by
        refine keep_drew ?_
        rcases HP.out.2.2.2 with q | q | ⟨b', q, q'⟩
        · exact KeepBut.trans HP.out.2.2.1 (by rw [← q]; exact set_own hv _) (.inl rfl)
        · rw [hv] at q; cases q
        · rw [hv] at q
          cases q
          exact keep_far HP.out.2.2.1 (p := ⟨gb, i * 2 + 1, none⟩) q' _)
      clear hc4 hc1 k1 f1
      have hc3 := HS.out.c3
      rw [EUT.out] at hc3
      go_wp2_with (first | (go_at_call 18; (with_reducible refine (rlater_c g _ u T w0 _ HS.out HBS.out HOU.out t' HRU.out).mono ?_); rintro e w9 ⟨rfl, hp⟩; have HQ := Aside0.mk (PostR.trans HBS.out HKS.out HP.out.2.2.2 hp); clear hp))
      go_ret
      exact ⟨rfl, HQ.out⟩
    · go_region
      have hv : (Value.slice (some ⟨gb, 0, none⟩) t.l.length c).ownBlock = some gb := rfl
      have HS := Aside0.mk (show IsR w0 (World.drew (World.setCell _ ⟨gb, i * 2 + 1, none⟩ (.int .i64 most))) g (.slice (some ⟨gb, 0, none⟩) t.l.length c) u from by
        rw [← HU.out]
        exact ⟨blk_drew (blk_far HP.out.1.1 (p := ⟨gb, i * 2 + 1, none⟩) (by show g ≠ gb; have := HP.out.1.ne; rw [hv] at this; simpa using this) _), HP.out.1.ls.put (x' := ⟨k, _⟩) (j := 1) HBB.out (by decide) (by rw [← HBK.out]; rfl), HGE.out⟩)
      have HBS := Aside0.mk (below_drew (below_set (g := gb) (j := i * 2 + 1) (v := .int .i64 most) HP.out.2.1 hgb))
      have HKS := Aside0.mk (show KeepBut w (World.drew (World.setCell _ ⟨gb, i * 2 + 1, none⟩ (.int .i64 most))) g v.ownBlock from by
        refine keep_drew ?_
        rcases HP.out.2.2.2 with q | q | ⟨b', q, q'⟩
        · exact KeepBut.trans HP.out.2.2.1 (by rw [← q]; exact set_own hv _) (.inl rfl)
        · rw [hv] at q; cases q
        · rw [hv] at q
          cases q
          exact keep_far HP.out.2.2.1 (p := ⟨gb, i * 2 + 1, none⟩) q' _)
      clear hc4 hc1 k1 f1
      have hc3 := HS.out.c3
      rw [EUT.out] at hc3
      go_wp2_with (first | (go_at_call 18; (with_reducible refine (rlater_c g _ u T w0 _ HS.out HBS.out HOU.out t' HRU.out).mono ?_); rintro e w9 ⟨rfl, hp⟩; have HQ := Aside0.mk (PostR.trans HBS.out HKS.out HP.out.2.2.2 hp); clear hp))
      go_ret
      exact ⟨rfl, HQ.out⟩
    · go_region
      have hv : (Value.slice (some ⟨gb, 0, none⟩) t.l.length c).ownBlock = some gb := rfl
      have HS := Aside0.mk (show IsR w0 (World.drew (World.setCell _ ⟨gb, i * 2 + 1, none⟩ (.int .i64 (b.f + n)))) g (.slice (some ⟨gb, 0, none⟩) t.l.length c) u from by
        rw [← HU.out]
        exact ⟨blk_drew (blk_far HP.out.1.1 (p := ⟨gb, i * 2 + 1, none⟩) (by show g ≠ gb; have := HP.out.1.ne; rw [hv] at this; simpa using this) _), HP.out.1.ls.put (x' := ⟨k, _⟩) (j := 1) HBB.out (by decide) (by rw [← HBK.out]; rfl), HGE.out⟩)
      have HBS := Aside0.mk (below_drew (below_set (g := gb) (j := i * 2 + 1) (v := .int .i64 (b.f + n)) HP.out.2.1 hgb))
      have HKS := Aside0.mk (show KeepBut w (World.drew (World.setCell _ ⟨gb, i * 2 + 1, none⟩ (.int .i64 (b.f + n)))) g v.ownBlock from by
        refine keep_drew ?_
        rcases HP.out.2.2.2 with q | q | ⟨b', q, q'⟩
        · exact KeepBut.trans HP.out.2.2.1 (by rw [← q]; exact set_own hv _) (.inl rfl)
        · rw [hv] at q; cases q
        · rw [hv] at q
          cases q
          exact keep_far HP.out.2.2.1 (p := ⟨gb, i * 2 + 1, none⟩) q' _)
      clear hc4 hc1 k1 f1
      have hc3 := HS.out.c3
      rw [EUT.out] at hc3
      go_wp2_with (first | (go_at_call 18; (with_reducible refine (rlater_c g _ u T w0 _ HS.out HBS.out HOU.out t' HRU.out).mono ?_); rintro e w9 ⟨rfl, hp⟩; have HQ := Aside0.mk (PostR.trans HBS.out HKS.out HP.out.2.2.2 hp); clear hp))
      go_ret
      exact ⟨rfl, HQ.out⟩
end Go.Proofs.Ytdojihocnkakjaa.Quo
