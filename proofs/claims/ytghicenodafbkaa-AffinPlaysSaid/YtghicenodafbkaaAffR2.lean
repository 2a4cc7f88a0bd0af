/- The document's Find, Forget, New; the walks; no condition but those that stand in each. -/
import Derived.Test.YtghicenodafbkaaAffR
namespace Go.Proofs.Ytghicenodafbkaa.Aff
set_option linter.unusedVariables false
set_option linter.unusedSimpArgs false
open Go.RowKit Go.Proofs.Ytghicenodafbkaa.PA Go.Proofs.YtghicenodafbkaaW.PrintWords Go.Proofs.YtghicenodafbkaaW.PrintLast Go.Proofs.YtghicenodafbkaaW.PrintMore Go.Proofs.Ytghicenodafbkaa.Tab Go.Proofs.Ytghicenodafbkaa.Lst
attribute [local go_sem] max2_int min2_int max_two min_two max_three min_three max_four min_four
/-! ### Find -/
def rfindV (s : TS) (now k : Int) : (Int × Bool) × TS :=
  let t := laterV s now
  match rplace k t.l 0 with
  | none => ((0, false), t)
  | some i => (((t.l.getD i ⟨0, 0, 0⟩).x, true), { t with l := t.l.set i ⟨k, (t.l.getD i ⟨0, 0, 0⟩).x, t.now + t.keep⟩ })
set_option maxHeartbeats 8000000 in
theorem rfind_c (g : Nat) (v : Value) (r : TS) (now k : Int) (w0 w : World) (hR : IsR w0 w g v r) (hB : Below w0.heap.size w0 w) (hO : Ok r) (x0 : Int) (b0 : Bool) (t' : TS) (hr : rfindV r now k = ((x0, b0), t')) :
    Calls Try.prog 13 #[.pointer (some ⟨g, 0, none⟩), .int .i64 now, .int .u64 k] w fun e w' => e = .returned (.tuple #[.int .u64 x0, .bool b0]) ∧ PostR w0 w g v t' w' := by
  have hO1 := hO.later now
  obtain ⟨t, ht⟩ : ∃ t, laterV r now = t := ⟨_, rfl⟩
  have H1 := Aside0.mk (rlater_c g v r now w0 w hR hB hO t ht)
  rw [ht] at hO1
  have HL := Aside0.mk (show t.l.length ≤ 1024 by have := hO1.len; have := hO1.room2; omega)
  obtain ⟨o, ho⟩ : ∃ o, rplace k t.l 0 = o := ⟨_, rfl⟩
  have HPL := Aside0.mk ho
  unfold rfindV at hr
  dsimp only at hr
  rw [ht, ho] at hr
  obtain ⟨i0, hi0, _, hs0, _⟩ := info_parts info68
  have HGE := Aside0.mk hR.ge
  have n1 := hO1.now1; have n2 := hO1.now2; have kp1 := hO1.keep1; have kp2 := hO1.keep2
  clear hR hB hO hO1 ht
  cases o with
  | none =>
    dsimp only at hr
    simp only [Prod.mk.injEq] at hr
    obtain ⟨⟨rfl, rfl⟩, rfl⟩ := hr
    go_enter Try.func13, Try.ntmps13
    go_wp2_with (first | (go_at_call 24; (with_reducible refine H1.out.mono ?_); rintro e w9 ⟨rfl, v', hp⟩; have HP := Aside0.mk hp; clear hp) | (go_at_call 25; (with_reducible refine (place_c g v' t k w0 _ HP.out.1 HL.out _ HPL.out (-1) rfl).mono ?_); rintro e w9 ⟨rfl, rfl⟩; have hc3 := HP.out.1.c3))
    go_ret2
    exact ⟨rfl, v', HP.out⟩
  | some i =>
    dsimp only at hr
    obtain ⟨_, b, hb, hbk⟩ := rplace_some ho
    rw [Nat.sub_zero] at hb
    simp only [Prod.mk.injEq, List.getD_eq_getElem?_getD, hb, Option.getD_some] at hr
    obtain ⟨⟨rfl, rfl⟩, rfl⟩ := hr
    have hlt : i < t.l.length := (List.getElem?_eq_some_iff.1 hb).1
    have HBB := Aside0.mk hb
    have HBK := Aside0.mk hbk
    obtain ⟨nw, hnw⟩ : ∃ z, t.now = z := ⟨_, rfl⟩
    obtain ⟨kp, hkp⟩ : ∃ z, t.keep = z := ⟨_, rfl⟩
    rw [hnw] at n1 n2 ⊢
    rw [hkp] at kp1 kp2 ⊢
    have HNW := Aside0.mk hnw; have HKP := Aside0.mk hkp
    have e1 : IntKind.i64.wrap (nw + kp) = nw + kp := by rw [i64_w]; exact Base.w64 (by omega) (by omega)
    clear hb hbk ho hnw hkp
    go_enter Try.func13, Try.ntmps13
    go_upto_region 5 with (first | (go_at_call 24; (with_reducible refine H1.out.mono ?_); rintro e w9 ⟨rfl, v', hp⟩; have HP := Aside0.mk hp; clear hp) | (go_at_call 25; (with_reducible refine (place_c g v' t k w0 _ HP.out.1 HL.out _ HPL.out (i : Int) rfl).mono ?_); rintro e w9 ⟨rfl, rfl⟩; have hc3 := HP.out.1.c3; obtain ⟨A, c, rfl, hac, ham⟩ := HP.out.1.ls.form; obtain ⟨gb, rfl, hgb, _, hcl, hfz, _⟩ := HP.out.1.ls.at HBB.out; have k1 : World.cell? _ ⟨gb, i * 3 + 1, none⟩ = some (.int .u64 b.x) := hcl 1 _ rfl; have k2 : World.cell? _ ⟨gb, i * 3 + 2, none⟩ = some (.int .i64 b.y) := hcl 2 _ rfl; have f2 := hfz (i * 3 + 2); clear hcl hfz))
    have hc2 := HP.out.1.c2; have hc1 := HP.out.1.c1
    rw [HNW.out] at hc2; rw [HKP.out] at hc1
    go_region
    have hv : (Value.slice (some ⟨gb, 0, none⟩) t.l.length c).ownBlock = some gb := rfl
    have HS := Aside0.mk (show IsR w0 (World.drew (World.setCell _ ⟨gb, i * 3 + 2, none⟩ (.int .i64 (nw + kp)))) g (.slice (some ⟨gb, 0, none⟩) t.l.length c) { t with l := t.l.set i ⟨k, b.x, nw + kp⟩ } from
        ⟨blk_drew (blk_far HP.out.1.1 (p := ⟨gb, i * 3 + 2, none⟩) (by show g ≠ gb; have := HP.out.1.ne; rw [hv] at this; simpa using this) _), HP.out.1.ls.put (x' := ⟨k, b.x, nw + kp⟩) (j := 2) HBB.out (by decide) (by rw [← HBK.out]; rfl), HGE.out⟩)
    have HBS := Aside0.mk (below_drew (below_set (g := gb) (j := i * 3 + 2) (v := .int .i64 (nw + kp)) HP.out.2.1 hgb))
    have HKS := Aside0.mk (show KeepBut w (World.drew (World.setCell _ ⟨gb, i * 3 + 2, none⟩ (.int .i64 (nw + kp)))) g v.ownBlock from by
        refine keep_drew ?_
        rcases HP.out.2.2.2 with q | q | ⟨b', q, q'⟩
        · exact KeepBut.trans HP.out.2.2.1 (by rw [← q]; exact set_own hv _) (.inl rfl)
        · rw [hv] at q; cases q
        · rw [hv] at q
          cases q
          exact keep_far HP.out.2.2.1 (p := ⟨gb, i * 3 + 2, none⟩) q' _)
    have HQ := Aside0.mk HP.out.2.2.2
    have HB2 := Aside0.mk (show (t.l.set i ⟨k, b.x, nw + kp⟩)[i]? = some ⟨k, b.x, nw + kp⟩ by rw [List.getElem?_set_self hlt])
    clear hc3 hc2 hc1 k1 k2 f2 HP
    have hc3 := HS.out.c3
    have kk := HS.out.ls
    dsimp only at kk
    rw [show t.l.length = (t.l.set i ⟨k, b.x, nw + kp⟩).length by rw [List.length_set]] at kk
    obtain ⟨gb2, hgb2, _, _, hcl, _, _⟩ := kk.at HB2.out
    cases hgb2
    have k1 : World.cell? _ ⟨gb, i * 3 + 1, none⟩ = some (.int .u64 b.x) := hcl 1 _ rfl
    clear hcl kk
    go_wp2_with fail
    go_ret2
    refine ⟨rfl, _, ?_, HBS.out, HKS.out, HQ.out⟩
    have h := HS.out
    have e1 := HNW.out
    have e2 := HKP.out
    subst e1 e2
    exact h
/-! ### Forget -/
def rforgetV (s : TS) (now rp : Int) : Int × TS :=
  let t := laterV s now
  ((t.l.length : Int) - ((t.l.filter (fun q => !(q.x == rp))).length : Int), { t with l := t.l.filter (fun q => !(q.x == rp)) })
set_option maxHeartbeats 8000000 in
set_option maxRecDepth 100000 in
theorem rforget_c (g : Nat) (v : Value) (r : TS) (now rp : Int) (w0 w : World) (hR : IsR w0 w g v r) (hB : Below w0.heap.size w0 w) (hO : Ok r) (n : Int) (r' : TS) (he : rforgetV r now rp = (n, r')) :
    Calls Try.prog 15 #[.pointer (some ⟨g, 0, none⟩), .int .i64 now, .int .u64 rp] w fun e w' => e = .returned (.int .i64 n) ∧ PostR w0 w g v r' w' := by
  have hO1 := hO.later now
  obtain ⟨t, ht⟩ : ∃ t, laterV r now = t := ⟨_, rfl⟩
  have H1 := Aside0.mk (rlater_c g v r now w0 w hR hB hO t ht)
  rw [ht] at hO1
  unfold rforgetV at he
  dsimp only at he
  rw [ht] at he
  simp only [Prod.mk.injEq] at he
  obtain ⟨hn, he⟩ := he
  obtain ⟨l, hl⟩ : ∃ z, t.l = z := ⟨_, rfl⟩
  obtain ⟨p, hp⟩ : ∃ p : Bk → Bool, (fun q => !(q.x == rp)) = p := ⟨_, rfl⟩
  rw [hp, hl] at hn he
  have HN0 := Aside0.mk hn; have HE := Aside0.mk he
  have HLL := Aside0.mk hl
  have HPP := Aside0.mk (show ∀ q, p q = (q.x != rp) from fun q => by rw [← hp]; rfl)
  have HLEN := Aside0.mk (show l.length ≤ 1024 by have q1 := hO1.len; have q2 := hO1.room2; rw [hl] at q1; omega)
  have hu68 := Try.underlying68
  obtain ⟨i0, hi0, _, hs0, _⟩ := info_parts info68
  have HGE := Aside0.mk hR.ge
  clear hR hB hO hO1 ht hn he hl hp
  go_enter Try.func15, Try.ntmps15
  go_upto_region 2 with (first | (go_at_call 24; (with_reducible refine H1.out.mono ?_); rintro e w9 ⟨rfl, v', hp⟩; have HP := Aside0.mk hp; clear hp))
  obtain ⟨HR1, HB1, HK1, HO1⟩ : Aside0 (IsR w0 w9 g v' t) ∧ Aside0 (Below w0.heap.size w0 w9) ∧ Aside0 (KeepBut w w9 g v.ownBlock) ∧ Aside0 (v'.ownBlock = v.ownBlock ∨ v'.ownBlock = none ∨ ∃ b, v'.ownBlock = some b ∧ w.heap.size ≤ b) := ⟨⟨HP.out.1⟩, ⟨HP.out.2.1⟩, ⟨HP.out.2.2.1⟩, ⟨HP.out.2.2.2⟩⟩
  have HRL := Aside0.mk (show Ls encB 68 w9 w0.heap.size v' l by rw [← HLL.out]; exact HR1.out.ls)
  obtain ⟨A, c, rfl, hAc, hAm⟩ := HRL.out.form
  clear HP
  go_wp2_with fail
  go_loopw [7, 8] (fun vo vi wr => ∃ (i : Nat), vi = .int .i64 i ∧ Aside0 (i ≤ l.length) ∧ Aside0 (Ls encB 68 wr w9.heap.size vo ((l.take i).filter p)) ∧ Aside0 (Below w9.heap.size w9 wr)) (fun _ vi _ => (l.length - intOf vi).toNat)
  case atStart => exact ⟨0, rfl, ⟨Nat.zero_le _⟩, ⟨Ls.nil _ _ _ _⟩, ⟨Below.refl _ _⟩⟩
  case round =>
    obtain ⟨i, rfl, HI, HLS, HBW⟩ := hrel
    obtain ⟨A2, c2, rfl, _, _⟩ := HLS.out.form
    have l1 := HI.out
    have l0 := HLEN.out
    have HRW := Aside0.mk (HR1.out.below HBW.out)
    have hc3 := HRW.out.c3
    by_cases hlt : i < l.length
    · obtain ⟨b, hb⟩ : ∃ b, l[i]? = some b := ⟨_, List.getElem?_eq_getElem hlt⟩
      have HTK := Aside0.mk (filter_take (p := p) hb)
      obtain ⟨gb, rfl, hg1, hg2, hcl, hfz, _⟩ := (HRL.out.below HBW.out).at hb
      have k0 : wr.cell? ⟨gb, i * 3, none⟩ = some (.int .u64 b.key) := hcl 0 _ rfl
      have k1 : wr.cell? ⟨gb, i * 3 + 1, none⟩ = some (.int .u64 b.x) := hcl 1 _ rfl
      have k2 : wr.cell? ⟨gb, i * 3 + 2, none⟩ = some (.int .i64 b.y) := hcl 2 _ rfl
      have HLB := Aside0.mk (show ((l.take i).filter p).length ≤ 1024 by have := List.length_filter_le p (l.take i); rw [List.length_take] at this; omega)
      clear hb hcl hfz
      by_cases hk : b.x = rp
      · have HN := Aside0.mk (show (l.take (i + 1)).filter p = (l.take i).filter p by rw [HTK.out, HPP.out, hk]; simp)
        have hkb : (b.x != rp) = false := by simpa using hk
        clear hk
        go_wp2_with fail
        go_roundw
        case rel => exact ⟨i + 1, by go_num, ⟨by omega⟩, ⟨by rw [HN.out]; exact HLS.out⟩, ⟨HBW.out⟩⟩
        case measure => simp [intOf]; omega
      · have HN := Aside0.mk (show (l.take (i + 1)).filter p = (l.take i).filter p ++ [b] by rw [HTK.out, HPP.out, if_pos (by simpa using hk)])
        have hkb : (b.x != rp) = true := by simpa using hk
        clear hk
        have HLS1 := Aside0.mk HLS.out
        have HBW1 := Aside0.mk HBW.out
        go_wp2_with (first | (at_builtin; refine wpList_push rfl _ _ 40 68 _ 24 rfl Try.underlying40 info68 rfl w9.heap.size _ _ b rfl _ rfl (by simp) HLS1.out HBW1.out.size (by have := HLB.out; omega) (by decide) _ rfl ?_; intro v1 w1 h1 h2 h3; have HP1 := Aside0.mk h1; have HP2 := Aside0.mk h2; clear h1 h2 h3) | go_in)
        go_roundw
        case rel => exact ⟨i + 1, by go_num, ⟨by omega⟩, ⟨by rw [HN.out]; exact HP1.out⟩, ⟨pw_below_grown HBW1.out _ HBW1.out.size HP2.out (fun k hk => (HLS1.out.own k hk).1)⟩⟩
        case measure => simp [intOf]; omega
    · have e : l.take i = l := List.take_of_length_le (by omega)
      have HE2 := Aside0.mk e
      have hf3 := HRW.out.free 3
      have l3 := List.length_filter_le p (l.take i)
      rw [e] at l3
      obtain ⟨m, hm⟩ : ∃ m, ((l.take i).filter p).length = m := ⟨_, rfl⟩
      have HM := Aside0.mk hm
      rw [e] at hm
      rw [hm] at l3
      have e1 : IntKind.i64.wrap ((l.length : Int) - (m : Int)) = (l.length : Int) - (m : Int) := by rw [i64_w]; exact Base.w64 (by omega) (by omega)
      rw [HM.out]
      have ll := HLL.out
      clear hm e
      go_wp2_with fail
      go_ret
      have hb2 := below_step HB1.out HBW.out
      refine ⟨congrArg (fun z : Int => Ending.returned (Value.int .i64 z)) (show (l.length : Int) - (m : Int) = n from by rw [← HN0.out, ← HM.out, HE2.out]), .slice A2 m c2, ?_, below_set hb2 HGE.out, KeepBut.set_ (KeepBut.trans HK1.out (KeepBut.of_below HBW.out g _) (.inl rfl)) 3 _, ?_⟩
      · have := HRW.out.lay (HLS.out.lower HB1.out.size)
        rw [HM.out] at this
        rw [HE2.out, HE.out] at this
        exact this
      · by_cases hv : (Value.slice A2 m c2).ownBlock = none
        · exact .inr (.inl hv)
        · obtain ⟨b, hb⟩ := Option.ne_none_iff_exists'.1 hv
          exact .inr (.inr ⟨b, hb, Nat.le_trans HK1.out.1 (HLS.out.own b (by rw [HM.out]; exact hb)).1⟩)
/-! ### New -/
theorem ls_of {w : World} {v : Value} {base : Nat} (h : Kd.R k68 68 w base (fun _ => True) v []) : Ls encB 68 w base v [] := by
  obtain ⟨_, inner, ho, _⟩ := h
  obtain rfl : inner = [] := List.length_eq_zero_iff.1 (by have := ho.1; simpa using this)
  exact ho
theorem rnew_c (room keep : Int) (h : MayB room keep) (w : World) : Calls Try.prog 12 #[.int .i64 room, .int .i64 keep] w fun e w' => ∃ v, e = .returned (.tuple #[.agg #[.int .i64 room, .int .i64 keep, .int .i64 0, v], .int .i64 0]) ∧ Ls encB 68 w' w.heap.size v [] ∧ Below w.heap.size w w' := by
  unfold MayB at h
  refine (garboardref18_New.calls room keep room keep 0 [] 0 w ?_).mono ?_
  · unfold garboardref18_New.f
    rw [if_neg (by omega), if_neg (by omega), if_neg (by omega), if_neg (by omega)]
  · rintro e w' ⟨v, rfl, hR, hb⟩
    exact ⟨v, rfl, ls_of hR, hb⟩
theorem rnew_no (room keep : Int) (h : ¬ MayB room keep) (w : World) : Calls Try.prog 12 #[.int .i64 room, .int .i64 keep] w fun e w' => ∃ v, e = .returned (.tuple #[.agg #[.int .i64 0, .int .i64 0, .int .i64 0, v], .int .i64 1]) ∧ Ls encB 68 w' w.heap.size v [] ∧ Below w.heap.size w w' := by
  unfold MayB at h
  refine (garboardref18_New.calls room keep 0 0 0 [] 1 w ?_).mono ?_
  · unfold garboardref18_New.f
    (repeat' split) <;> first | rfl | (exfalso; omega)
  · rintro e w' ⟨v, rfl, hR, hb⟩
    exact ⟨v, rfl, ls_of hR, hb⟩
end Go.Proofs.Ytghicenodafbkaa.Aff
