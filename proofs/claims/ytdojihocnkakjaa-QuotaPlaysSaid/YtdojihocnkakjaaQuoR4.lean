/- The document's Take, Give, When; the walks; no condition but those that stand in each. -/
import Derived.Test.YtdojihocnkakjaaQuoR3
namespace Go.Proofs.Ytdojihocnkakjaa.Quo
set_option linter.unusedVariables false
set_option linter.unusedSimpArgs false
open Go.RowKit Go.Proofs.Ytdojihocnkakjaa.PA Go.Proofs.YtdojihocnkakjaaW.PrintWords Go.Proofs.YtdojihocnkakjaaW.PrintLast Go.Proofs.YtdojihocnkakjaaW.PrintMore Go.Proofs.Ytdojihocnkakjaa.Tab Go.Proofs.Ytdojihocnkakjaa.SatMul Go.Proofs.Ytdojihocnkakjaa.Lst
attribute [local go_sem] max2_int min2_int max_two min_two max_three min_three max_four min_four
def rtakeV (r : RS) (now k n : Int) : (Bool × Int) × RS :=
  let t := rlaterV r now
  if n < 1 then ((false, 1), t) else if rF t k < n then ((false, 0), t) else
  match rplace k t.l 0 with
  | none => if t.room ≤ (t.l.length : Int) then ((false, 9), t) else ((true, 0), { t with l := t.l ++ [⟨k, rF t k - n⟩] })
  | some i => ((true, 0), { t with l := t.l.set i ⟨k, rF t k - n⟩ })
theorem keep_own {W W' : World} {g : Nat} {v : Value} (h : W.grownBy W' v.ownBlock) : KeepBut W W' g v.ownBlock := KeepBut.of_grown h g
theorem set_own {W : World} {g gb j : Nat} {v : Value} (hv : v.ownBlock = some gb) (u : Value) : KeepBut W (W.setCell ⟨gb, j, none⟩ u) g v.ownBlock :=
  ⟨by simp [World.setCell], fun i hi hg hr => Below.heap_setCell W ⟨gb, j, none⟩ u i (fun e => hr (by rw [hv]; show some i = some gb; rw [e]))⟩
set_option maxHeartbeats 8000000 in
theorem rtake_c (g : Nat) (v : Value) (r : RS) (now k n : Int) (hk : 0 ≤ k ∧ k ≤ 18446744073709551615) (hn1 : n ≤ 9223372036854775807) (w0 w : World) (hR : IsR w0 w g v r) (hB : Below w0.heap.size w0 w) (hO : OkR r) (b0 : Bool) (e0 : Int) (t' : RS) (hr : rtakeV r now k n = ((b0, e0), t')) :
    Calls Try.prog 19 #[.pointer (some ⟨g, 0, none⟩), .int .i64 now, .int .u64 k, .int .i64 n] w fun e w' => e = .returned (.tuple #[.bool b0, .int .i64 e0]) ∧ PostR w0 w g v t' w' := by
  have hO1 := hO.later now
  obtain ⟨t, ht⟩ : ∃ t, rlaterV r now = t := ⟨_, rfl⟩
  obtain ⟨f, hf⟩ : ∃ f, rF t k = f := ⟨_, rfl⟩
  have H1 := Aside0.mk (rfill_c g v r now k w0 w hR hB hO t ht f hf)
  rw [ht] at hO1
  have fb := rF_bd hO1 k
  rw [hf] at fb
  have HL := Aside0.mk (show t.l.length ≤ 1024 by have := hO1.len; have := hO1.room2; omega)
  obtain ⟨o, ho⟩ : ∃ o, rplace k t.l 0 = o := ⟨_, rfl⟩
  have HPL := Aside0.mk ho
  unfold rtakeV at hr
  dsimp only at hr
  rw [ht, hf, ho] at hr
  have HOT := Aside0.mk hO1
  have hz := zeroRb
  have hu66 := Try.underlying66
  obtain ⟨i0, hi0, _, hs0, _⟩ := info_parts info66
  have HGE := Aside0.mk hR.ge
  have HBW := Aside0.mk hB
  have m2 := hO1.most2
  clear hR hB hO hO1 ht hf hk
  by_cases c1 : n < 1
  · rw [if_pos c1] at hr
    simp only [Prod.mk.injEq] at hr
    obtain ⟨⟨rfl, rfl⟩, rfl⟩ := hr
    go_enter Try.func19, Try.ntmps19
    go_wp2_with (first | (go_at_call 20; (with_reducible refine H1.out.mono ?_); rintro e w9 ⟨rfl, v', hp⟩; have HP := Aside0.mk hp; clear hp))
    go_ret2
    exact ⟨rfl, v', HP.out⟩
  rw [if_neg c1] at hr
  by_cases c2 : f < n
  · rw [if_pos c2] at hr
    simp only [Prod.mk.injEq] at hr
    obtain ⟨⟨rfl, rfl⟩, rfl⟩ := hr
    go_enter Try.func19, Try.ntmps19
    go_wp2_with (first | (go_at_call 20; (with_reducible refine H1.out.mono ?_); rintro e w9 ⟨rfl, v', hp⟩; have HP := Aside0.mk hp; clear hp))
    go_ret2
    exact ⟨rfl, v', HP.out⟩
  rw [if_neg c2] at hr
  cases o with
  | none =>
    dsimp only at hr
    obtain ⟨room, hroom⟩ : ∃ z, t.room = z := ⟨_, rfl⟩
    have HRO := Aside0.mk hroom
    by_cases c3 : t.room ≤ (t.l.length : Int)
    · rw [if_pos c3] at hr
      simp only [Prod.mk.injEq] at hr
      obtain ⟨⟨rfl, rfl⟩, rfl⟩ := hr
      rw [hroom] at c3
      clear hroom
      go_enter Try.func19, Try.ntmps19
      go_wp2_with (first | (go_at_call 20; (with_reducible refine H1.out.mono ?_); rintro e w9 ⟨rfl, v', hp⟩; have HP := Aside0.mk hp; clear hp) | (go_at_call 29; (with_reducible refine (place_v g v' t k w0 _ HP.out.1 HL.out _ HPL.out (-1) rfl).mono ?_); rintro e w9 ⟨rfl, rfl⟩; have hc4 := HP.out.1.c4))
      have hc0 := HP.out.1.c0
      rw [HRO.out] at hc0
      obtain ⟨A, c, rfl, hac, ham⟩ := HP.out.1.ls.form
      go_quiet (fail)
      go_wp2_with fail
      go_ret2
      exact ⟨rfl, _, HP.out.1.drew _, pw_below_drewN HP.out.2.1 _, keep_drewN HP.out.2.2.1 _, HP.out.2.2.2⟩
    · rw [if_neg c3] at hr
      simp only [Prod.mk.injEq] at hr
      obtain ⟨⟨rfl, rfl⟩, rfl⟩ := hr
      rw [hroom] at c3
      clear hroom
      go_enter Try.func19, Try.ntmps19
      go_wp2_with (first | (go_at_call 20; (with_reducible refine H1.out.mono ?_); rintro e w9 ⟨rfl, v', hp⟩; have HP := Aside0.mk hp; clear hp) | (go_at_call 29; (with_reducible refine (place_v g v' t k w0 _ HP.out.1 HL.out _ HPL.out (-1) rfl).mono ?_); rintro e w9 ⟨rfl, rfl⟩; have hc4 := HP.out.1.c4))
      have hc0 := HP.out.1.c0
      rw [HRO.out] at hc0
      obtain ⟨A, c, rfl, hac, ham⟩ := HP.out.1.ls.form
      go_quiet (fail)
      have HP2 := Aside0.mk (show PostR w0 w g v t (World.drewN _ nq) from ⟨_, HP.out.1.drew nq, pw_below_drewN HP.out.2.1 _, keep_drewN HP.out.2.2.1 _, HP.out.2.2.2⟩)
      have HR2 := Aside0.mk (HP.out.1.drew nq)
      have HB2 := Aside0.mk (pw_below_drewN HP.out.2.1 nq)
      have HK2 := Aside0.mk (keep_drewN HP.out.2.2.1 nq)
      clear HP
      have hc4 := HR2.out.c4
      go_wp2_with (first | (at_builtin; refine wpList_copy rfl _ _ 43 66 _ 16 rfl Try.underlying43 info66 rfl w0.heap.size _ t.l rfl rfl HR2.out.ls (by have := HL.out; omega) (by decide) ?_; intro v1 w1 h1 h2 h3; have H0 := Aside0.mk h1; have HN := Aside0.mk h3; have hb := below_grown0 h2; have HR3 := Aside0.mk (HR2.out.below hb); have HB3 := Aside0.mk (below_step HB2.out hb); have HK3 := Aside0.mk (KeepBut.trans HK2.out (KeepBut.of_below hb g v.ownBlock) (.inl rfl)); have HSZ := Aside0.mk hb.size; have HBZ := Aside0.mk hb; clear h1 h2 h3 hb hc4; have hc4 := HR3.out.c4; have hf4 := HR3.out.free 4) | (at_builtin; refine wpList_push rfl _ _ 43 66 _ 16 rfl Try.underlying43 info66 rfl _ _ _ ⟨k, f - n⟩ rfl _ rfl rfl H0.out HSZ.out (by have := HL.out; omega) (by decide) _ rfl ?_; intro v2 w2 h1 h2 h3; obtain ⟨A2, c2, rfl, _, _⟩ := h1.form; rw [show (t.l ++ [(⟨k, f - n⟩ : Rb)]).length = t.l.length + 1 by simp] at h1; have H4 := Aside0.mk h1; have H3 := Aside0.mk (below_grownN HBZ.out h2 HN.out); clear h1 h2 h3 hc4 hf4; have hc4 := (HR2.out.below H3.out).c4; have hf4 := (HR2.out.below H3.out).free 4) | go_in)
      go_ret2
      refine ⟨rfl, _, (HR2.out.below H3.out).lay (H4.out.lower HB2.out.size), below_set (below_step HB2.out H3.out) HGE.out, KeepBut.set_ (KeepBut.trans HK2.out (KeepBut.of_below H3.out g _) (.inl rfl)) 4 _, ?_⟩
      by_cases hv : (Value.slice A2 (t.l.length + 1) c2).ownBlock = none
      · exact .inr (.inl hv)
      · obtain ⟨b, hb⟩ := Option.ne_none_iff_exists'.1 hv
        exact .inr (.inr ⟨b, hb, Nat.le_trans HK2.out.1 (H4.out.own b hb).1⟩)
  | some i =>
    dsimp only at hr
    simp only [Prod.mk.injEq] at hr
    obtain ⟨⟨rfl, rfl⟩, rfl⟩ := hr
    obtain ⟨_, b, hb, hbk⟩ := rplace_some ho
    rw [Nat.sub_zero] at hb
    have hlt : i < t.l.length := (List.getElem?_eq_some_iff.1 hb).1
    have HBB := Aside0.mk hb
    have HBK := Aside0.mk hbk
    clear hb hbk ho
    go_enter Try.func19, Try.ntmps19
    go_wp2_with (first | (go_at_call 20; (with_reducible refine H1.out.mono ?_); rintro e w9 ⟨rfl, v', hp⟩; have HP := Aside0.mk hp; clear hp) | (go_at_call 29; (with_reducible refine (place_v g v' t k w0 _ HP.out.1 HL.out _ HPL.out (i : Int) rfl).mono ?_); rintro e w9 ⟨rfl, rfl⟩; have hc4 := HP.out.1.c4; obtain ⟨A, c, rfl, hac, ham⟩ := HP.out.1.ls.form; obtain ⟨gb, rfl, hgb, _, hcl, hfz, _⟩ := HP.out.1.ls.at HBB.out; have k1 : World.cell? _ ⟨gb, i * 2 + 1, none⟩ = some (.int .i64 b.f) := hcl 1 _ rfl; have f1 := hfz (i * 2 + 1); clear hcl))
    go_ret2
    have hv : (Value.slice (some ⟨gb, 0, none⟩) t.l.length c).ownBlock = some gb := rfl
    have ls := HP.out.1.ls.put (u := .int .i64 (f - n)) (x' := ⟨k, f - n⟩) (j := 1) HBB.out (by decide) (by rw [← HBK.out]; rfl)
    refine ⟨rfl, .slice (some ⟨gb, 0, none⟩) t.l.length c, ⟨blk_far HP.out.1.1 (p := ⟨gb, i * 2 + 1, none⟩) (by show g ≠ gb; have := HP.out.1.ne; rw [hv] at this; simpa using this) _, ?_, HGE.out⟩, below_set HP.out.2.1 hgb, ?_, HP.out.2.2.2⟩
    · exact ls
    · rcases HP.out.2.2.2 with q | q | ⟨b', q, q'⟩
      · exact KeepBut.trans HP.out.2.2.1 (by rw [← q]; exact set_own hv _) (.inl rfl)
      · rw [hv] at q; cases q
      · rw [hv] at q
        cases q
        exact keep_far HP.out.2.2.1 (p := ⟨gb, i * 2 + 1, none⟩) q' _
end Go.Proofs.Ytdojihocnkakjaa.Quo
