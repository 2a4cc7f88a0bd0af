/- VarintLists: the bytes, and all numbers, that any bytes tell, and how many bytes some numbers have, are the document's, or refused; no condition beyond the row's. -/
import Derived.Test.YthpdologbfigcaaVarGet
namespace Go.Proofs.Ythpdologbfigcaa.Pure
set_option linter.unusedVariables false
set_option linter.unusedSimpArgs false
open Go.RowKit Go.Proofs.Ythpdologbfigcaa.PA Go.Proofs.YthpdologbfigcaaW.PrintWords Go.Proofs.YthpdologbfigcaaW.PrintMore Go.Proofs.Ythpdologbfigcaa.Base Go.Proofs.Ythpdologbfigcaa.Var

theorem clone_f (l : List Int) (h : l.length < 140737488355328) : bytes_Clone.f l = some l := by rw [bytes_Clone.f, if_pos h]

theorem getBytes_both (l : List Int) (m : Int) (hl : l.length ≤ 3000) (hb : Bytes l) (hm : (Lit.int .i64 m).wf = true) : ∃ r, Ev (fun k => varint_GetBytes.f k l m) r ∧ Ev (fun k => garboardref02_GetBytes.f k l m) r := by
  have hm := wf_i64 hm
  obtain ⟨⟨n, k, e⟩, hg⟩ : ∃ r, gt 0 0 l = r := ⟨_, rfl⟩
  have g1 := get_ev l (by omega) hb
  have g2 := rget_ev l (by omega) hb
  rw [hg] at g1 g2
  by_cases he : e = 0
  · subst he
    obtain ⟨n0, n1, ek, _, _, k1, k2⟩ := vb_gt0 hb hg
    by_cases hn : m < 0 ∨ n > m
    · refine ⟨([], 0, 5), ?_, ?_⟩
      · unfold varint_GetBytes.f
        refine Ev.bind g1 (ev_ifT (by trivial) ?_)
        dsimp only
        have hj : Ev (fun q => varint_GetBytes.j0 q l n k true) ([], 0, 5) := Ev.step (f := fun _ => some ([], 0, 5)) (fun q => by rw [varint_GetBytes.j0, if_pos rfl]) (Ev.now _)
        by_cases h : n > IntKind.u64.wrap (mx m 0)
        · exact ev_ifT h hj
        · refine ev_ifF h ?_
          have : m < 0 := by
            rcases hn with h' | h'
            · exact h'
            · by_cases h0 : m < 0
              · exact h0
              · exfalso
                apply h
                rw [show mx m 0 = m from by unfold mx; split <;> omega, wu64 (by omega) (by omega)]; exact h'
          rw [decide_eq_true this]; exact hj
      · unfold garboardref02_GetBytes.f
        refine Ev.bind g2 (ev_ifT (by trivial) ?_)
        dsimp only
        have hj : Ev (fun q => garboardref02_GetBytes.j0 q l n k true) ([], 0, 5) := Ev.step (f := fun _ => some ([], 0, 5)) (fun q => by rw [garboardref02_GetBytes.j0, if_pos rfl]) (Ev.now _)
        by_cases h : m < 0
        · exact ev_ifT h hj
        · refine ev_ifF h ?_
          have h' : n > m := by
            rcases hn with h' | h'
            · exact absurd h' h
            · exact h'
          rw [wu64 (x := m) (by omega) (by omega), decide_eq_true h']; exact hj
    · have hm0 : 0 ≤ m := by omega
      have hnm : n ≤ m := by omega
      have ew : IntKind.u64.wrap (wrap64 ((l.length : Int) - k)) = (l.length : Int) - k := by rw [w64 (by omega) (by omega), wu64 (by omega) (by omega)]
      have c1 : ∀ r, Ev (fun q => varint_GetBytes.j0 q l n k false) r → Ev (fun q => varint_GetBytes.f q l m) r := fun r hr => by
        unfold varint_GetBytes.f
        refine Ev.bind g1 (ev_ifT (by trivial) ?_)
        dsimp only
        refine ev_ifF ?_ ?_
        · rw [show mx m 0 = m from by unfold mx; split <;> omega, wu64 (by omega) (by omega)]; omega
        · rw [decide_eq_false (show ¬ m < 0 by omega)]; exact hr
      have c2 : ∀ r, Ev (fun q => garboardref02_GetBytes.j0 q l n k false) r → Ev (fun q => garboardref02_GetBytes.f q l m) r := fun r hr => by
        unfold garboardref02_GetBytes.f
        refine Ev.bind g2 (ev_ifT (by trivial) ?_)
        dsimp only
        refine ev_ifF (by omega) ?_
        rw [wu64 (x := m) (by omega) (by omega), decide_eq_false (show ¬ n > m by omega)]; exact hr
      by_cases hx : n > (l.length : Int) - k
      · refine ⟨([], 0, 4), c1 _ ?_, c2 _ ?_⟩
        · refine Ev.step (f := fun _ => some ([], 0, 4)) (fun q => ?_) (Ev.now _)
          rw [varint_GetBytes.j0, if_neg (by decide), ew, if_pos hx]
        · refine Ev.step (f := fun _ => some ([], 0, 4)) (fun q => ?_) (Ev.now _)
          rw [garboardref02_GetBytes.j0, if_neg (by decide), ew, if_pos hx]
      · have ee : wrap64 (k + wrap64 n) = k + n := by rw [w64 (x := n) (by omega) (by omega), w64 (by omega) (by omega)]
        have hlen : ((l.take (k + n).toNat).drop k.toNat).length < 140737488355328 := by rw [List.length_drop, List.length_take]; omega
        refine ⟨((l.take (k + n).toNat).drop k.toNat, k + n, 0), c1 _ ?_, c2 _ ?_⟩
        · refine Ev.step (f := fun _ => some ((l.take (k + n).toNat).drop k.toNat, k + n, 0)) (fun q => ?_) (Ev.now _)
          rw [varint_GetBytes.j0, if_neg (by decide), ew, if_neg hx, if_pos (by omega), ee, if_pos (by omega), if_pos (by omega), clone_f _ hlen, Option.bind_some]
        · refine Ev.step (f := fun _ => some ((l.take (k + n).toNat).drop k.toNat, k + n, 0)) (fun q => ?_) (Ev.now _)
          rw [garboardref02_GetBytes.j0, if_neg (by decide), ew, if_neg hx, if_pos (by omega), ee, if_pos (by omega), if_pos (by omega), List.length_nil, Nat.zero_add, if_pos hlen, List.nil_append]
  · refine ⟨([], 0, e), ?_, ?_⟩
    · unfold varint_GetBytes.f
      exact Ev.bind g1 (ev_ifF he (Ev.now _))
    · unfold garboardref02_GetBytes.f
      exact Ev.bind g2 (ev_ifF he (Ev.now _))

theorem all_both (m : Int) (d : Nat) : ∀ (l acc : List Int), l.length = d → l.length + acc.length ≤ 3000 → Bytes l → ∃ r, Ev (fun k => varint_All.l0 k l m acc) r ∧ Ev (fun k => garboardref02_All.l0 k l m acc) r := by
  induction d using Nat.strongRecOn with
  | ind d ih =>
    intro l acc hd hl hb
    by_cases h0 : (l.length : Int) > 0
    · by_cases h1 : (acc.length : Int) ≥ m
      · refine ⟨([], 5), ?_, ?_⟩
        · exact Ev.step (f := fun _ => some ([], 5)) (fun q => by rw [varint_All.l0, if_pos h0, if_pos h1]) (Ev.now _)
        · exact Ev.step (f := fun _ => some ([], 5)) (fun q => by rw [garboardref02_All.l0, if_pos h0, if_pos h1]) (Ev.now _)
      · obtain ⟨⟨n, k, e⟩, hg⟩ : ∃ r, gt 0 0 l = r := ⟨_, rfl⟩
        have g1 := get_ev l (by omega) hb
        have g2 := rget_ev l (by omega) hb
        rw [hg] at g1 g2
        by_cases he : e = 0
        · subst he
          obtain ⟨n0, n1, ek, _, _, k1, k2⟩ := vb_gt0 hb hg
          obtain ⟨r, r1, r2⟩ := ih (l.drop k.toNat).length (by rw [List.length_drop]; omega) (l.drop k.toNat) (acc ++ [n]) rfl (by rw [List.length_drop, List.length_append, List.length_singleton]; omega) (hb.drop _)
          refine ⟨r, ?_, ?_⟩
          · refine Ev.step (f := fun q => (varint_Get.f q l).bind fun bt133 => (if bt133.2.2 = 0 then (if acc.length < 17592186044416 then (if 0 ≤ bt133.2.1 then (if bt133.2.1 ≤ (l.length : Int) then (varint_All.l0 q (l.drop (bt133.2.1 : Int).toNat) m (acc ++ [bt133.1])) else (none)) else (none)) else (none)) else (some (([] : List Int), bt133.2.2)))) (fun q => by rw [varint_All.l0, if_pos h0, if_neg h1]) ?_
            exact Ev.bind g1 (ev_ifT (by trivial) (ev_ifT (by omega) (ev_ifT (show 0 ≤ k by omega) (ev_ifT k2 r1))))
          · refine Ev.step (f := fun q => (garboardref02_Get.f q l).bind fun bt133 => (if bt133.2.2 = 0 then (if acc.length < 17592186044416 then (if 0 ≤ bt133.2.1 then (if bt133.2.1 ≤ (l.length : Int) then (garboardref02_All.l0 q (l.drop (bt133.2.1 : Int).toNat) m (acc ++ [bt133.1])) else (none)) else (none)) else (none)) else (some (([] : List Int), bt133.2.2)))) (fun q => by rw [garboardref02_All.l0, if_pos h0, if_neg h1]) ?_
            exact Ev.bind g2 (ev_ifT (by trivial) (ev_ifT (by omega) (ev_ifT (show 0 ≤ k by omega) (ev_ifT k2 r2))))
        · refine ⟨([], e), ?_, ?_⟩
          · refine Ev.step (f := fun q => (varint_Get.f q l).bind fun bt133 => (if bt133.2.2 = 0 then (if acc.length < 17592186044416 then (if 0 ≤ bt133.2.1 then (if bt133.2.1 ≤ (l.length : Int) then (varint_All.l0 q (l.drop (bt133.2.1 : Int).toNat) m (acc ++ [bt133.1])) else (none)) else (none)) else (none)) else (some (([] : List Int), bt133.2.2)))) (fun q => by rw [varint_All.l0, if_pos h0, if_neg h1]) ?_
            exact Ev.bind g1 (ev_ifF he (Ev.now _))
          · refine Ev.step (f := fun q => (garboardref02_Get.f q l).bind fun bt133 => (if bt133.2.2 = 0 then (if acc.length < 17592186044416 then (if 0 ≤ bt133.2.1 then (if bt133.2.1 ≤ (l.length : Int) then (garboardref02_All.l0 q (l.drop (bt133.2.1 : Int).toNat) m (acc ++ [bt133.1])) else (none)) else (none)) else (none)) else (some (([] : List Int), bt133.2.2)))) (fun q => by rw [garboardref02_All.l0, if_pos h0, if_neg h1]) ?_
            exact Ev.bind g2 (ev_ifF he (Ev.now _))
    · refine ⟨(acc, 0), ?_, ?_⟩
      · exact Ev.step (f := fun _ => some (acc, 0)) (fun q => by rw [varint_All.l0, if_neg h0]) (Ev.now _)
      · exact Ev.step (f := fun _ => some (acc, 0)) (fun q => by rw [garboardref02_All.l0, if_neg h0]) (Ev.now _)

theorem skip_both (l : List Int) (m : Int) (hm : -9223372036854775808 ≤ m ∧ m ≤ 9223372036854775807) (hl : l.length ≤ 3000) (hb : Bytes l) (d : Nat) : ∀ (at_ i : Int), (m - i).toNat = d → 0 ≤ i → 0 ≤ at_ → at_ ≤ l.length →
    ∃ r, Ev (fun k => varint_Skip.l0 k l at_ (mx m 0) i) r ∧ Ev (fun k => garboardref02_Skip.l0 k l m at_ i) r := by
  induction d using Nat.strongRecOn with
  | ind d ih =>
    intro at_ i hd hi h0 h1
    have hx : (i < mx m 0) ↔ i < m := by unfold mx; split <;> omega
    by_cases h : i < m
    · obtain ⟨⟨n, k, e⟩, hg⟩ : ∃ r, gt 0 0 (l.drop at_.toNat) = r := ⟨_, rfl⟩
      have hb' := hb.drop at_.toNat
      have hlen : (l.drop at_.toNat).length = l.length - at_.toNat := List.length_drop
      have g1 := get_ev (l.drop at_.toNat) (by omega) hb'
      have g2 := rget_ev (l.drop at_.toNat) (by omega) hb'
      rw [hg] at g1 g2
      have s1 : ∀ q, varint_Skip.l0 (q + 1) l at_ (mx m 0) i = ((varint_Get.f q (l.drop at_.toNat)).bind fun bt268 => (if bt268.2.2 = 0 then (varint_Skip.l0 q l (wrap64 (at_ + bt268.2.1)) (mx m 0) (wrap64 (i + 1))) else (some (0, bt268.2.2)))) := fun q => by
        rw [varint_Skip.l0, if_pos (hx.mpr h), if_pos h0, if_pos h1]
      have s2 : ∀ q, garboardref02_Skip.l0 (q + 1) l m at_ i = ((garboardref02_Get.f q (l.drop at_.toNat)).bind fun bt268 => (if bt268.2.2 = 0 then (garboardref02_Skip.l0 q l m (wrap64 (at_ + bt268.2.1)) (wrap64 (i + 1))) else (some (0, bt268.2.2)))) := fun q => by
        rw [garboardref02_Skip.l0, if_pos h, if_pos h0, if_pos h1]
      by_cases he : e = 0
      · subst he
        obtain ⟨n0, n1, ek, _, _, k1, k2⟩ := vb_gt0 hb' hg
        have ew : wrap64 (at_ + k) = at_ + k := w64 (by omega) (by omega)
        have ei : wrap64 (i + 1) = i + 1 := w64 (by omega) (by omega)
        obtain ⟨r, r1, r2⟩ := ih (m - (i + 1)).toNat (by omega) (at_ + k) (i + 1) rfl (by omega) (by omega) (by omega)
        refine ⟨r, Ev.step s1 (Ev.bind g1 (ev_ifT (by trivial) ?_)), Ev.step s2 (Ev.bind g2 (ev_ifT (by trivial) ?_))⟩
        · dsimp only; rw [ew, ei]; exact r1
        · dsimp only; rw [ew, ei]; exact r2
      · exact ⟨(0, e), Ev.step s1 (Ev.bind g1 (ev_ifF he (Ev.now _))), Ev.step s2 (Ev.bind g2 (ev_ifF he (Ev.now _)))⟩
    · refine ⟨(at_, 0), ?_, ?_⟩
      · exact Ev.step (f := fun _ => some (at_, 0)) (fun q => by rw [varint_Skip.l0, if_neg (fun c => h (hx.mp c))]) (Ev.now _)
      · exact Ev.step (f := fun _ => some (at_, 0)) (fun q => by rw [garboardref02_Skip.l0, if_neg h]) (Ev.now _)

theorem same_loop (x : List Int) (hl : x.length ≤ 9223372036854775) : ∀ (d i : Nat), i + d = x.length → Ev (fun k => garboardlaw02_VarintLists.l0 k x x (x.length : Int) (i : Int)) true := by
  intro d
  induction d with
  | zero =>
    intro i hi
    exact Ev.step (f := fun k => (garboardlaw02_alive.f k).bind fun t => some t) (fun q => by rw [garboardlaw02_VarintLists.l0, if_neg (by omega)]) (Ev.bind alive_ev (Ev.now true))
  | succ d ih =>
    intro i hi
    refine Ev.step (f := fun k => garboardlaw02_VarintLists.l0 k x x (x.length : Int) ((i + 1 : Nat) : Int)) (fun q => ?_) (ih (i + 1) (by omega))
    rw [garboardlaw02_VarintLists.l0, if_pos (by omega), if_pos (by omega), if_pos (by omega), if_pos (by omega), if_pos rfl, w64 (by omega) (by omega)]
    rfl

theorem all_len (m : Int) (d : Nat) : ∀ (l acc : List Int) (r : List Int × Int), l.length = d → l.length + acc.length ≤ 3000 → Bytes l → Ev (fun k => varint_All.l0 k l m acc) r → r.1.length ≤ 3000 := by
  induction d using Nat.strongRecOn with
  | ind d ih =>
    intro l acc r hd hl hb hr
    by_cases h0 : (l.length : Int) > 0
    · by_cases h1 : (acc.length : Int) ≥ m
      · have := ev_uniq hr (Ev.step (f := fun _ => some (([] : List Int), (5 : Int))) (fun q => by rw [varint_All.l0, if_pos h0, if_pos h1]) (Ev.now _))
        subst this; simp
      · obtain ⟨⟨n, k, e⟩, hg⟩ : ∃ r, gt 0 0 l = r := ⟨_, rfl⟩
        have g1 := get_ev l (by omega) hb
        rw [hg] at g1
        have s1 : ∀ q, varint_All.l0 (q + 1) l m acc = ((varint_Get.f q l).bind fun bt133 => (if bt133.2.2 = 0 then (if acc.length < 17592186044416 then (if 0 ≤ bt133.2.1 then (if bt133.2.1 ≤ (l.length : Int) then (varint_All.l0 q (l.drop (bt133.2.1 : Int).toNat) m (acc ++ [bt133.1])) else (none)) else (none)) else (none)) else (some (([] : List Int), bt133.2.2)))) := fun q => by rw [varint_All.l0, if_pos h0, if_neg h1]
        by_cases he : e = 0
        · subst he
          obtain ⟨n0, n1, ek, _, _, k1, k2⟩ := vb_gt0 hb hg
          have hb2 := hb.drop k.toNat
          have hl2 : (l.drop k.toNat).length + (acc ++ [n]).length ≤ 3000 := by rw [List.length_drop, List.length_append, List.length_singleton]; omega
          obtain ⟨r', r1, _⟩ := all_both m _ (l.drop k.toNat) (acc ++ [n]) rfl hl2 hb2
          have h3 := ih _ (by rw [List.length_drop]; omega) (l.drop k.toNat) (acc ++ [n]) r' rfl hl2 hb2 r1
          have := ev_uniq hr (Ev.step s1 (Ev.bind g1 (ev_ifT (by trivial) (ev_ifT (by omega) (ev_ifT (show 0 ≤ k by omega) (ev_ifT k2 r1))))))
          subst this; exact h3
        · have := ev_uniq hr (Ev.step s1 (Ev.bind g1 (ev_ifF he (Ev.now _))))
          subst this; simp
    · have := ev_uniq hr (Ev.step (f := fun _ => some (acc, (0 : Int))) (fun q => by rw [varint_All.l0, if_neg h0]) (Ev.now _))
      subst this; simp; omega

theorem VarintLists : garboardlaw02_VarintLists.Pure := by
  intro l m _ _ hw hm
  have hb := bytes_of_wf hw
  have hm' := wf_i64 hm
  refine Ev.rounds ?_
  simp only [garboardlaw02_VarintLists.f, garboardlaw02_long.f, Option.bind_some]
  by_cases h : (l.length : Int) > 3000
  · exact ev_ifT (by simpa using h) (Ev.bind alive_ev (Ev.now true))
  · refine ev_ifF (by simpa using h) ?_
    obtain ⟨r1, a1, b1⟩ := getBytes_both l m (by omega) hb hm
    obtain ⟨r2, a2, b2⟩ := all_both m _ l [] rfl (by simp; omega) hb
    obtain ⟨r3, a3, b3⟩ := skip_both l m hm' (by omega) hb _ 0 0 rfl (by omega) (by omega) (by omega)
    have h2 := all_len m _ l [] r2 rfl (by simp; omega) hb a2
    refine Ev.bind a1 (Ev.bind b1 (Ev.bind (f := _) (a := r2) a2 (Ev.bind (f := _) (a := r2) b2 (Ev.bind (f := _) (a := r3) a3 (Ev.bind (f := _) (a := r3) b3 ?_)))))
    refine ev_ifT (by trivial) (ev_ifT (by trivial) (ev_ifT (by trivial) (ev_ifT (by trivial) (ev_ifT (by trivial) (ev_ifT (by trivial) ?_)))))
    rw [bne_self_eq_false]
    exact Ev.step (f := fun k => garboardlaw02_VarintLists.l0 k r2.1 r2.1 (r2.1.length : Int) 0) (fun q => by rw [garboardlaw02_VarintLists.j0, if_neg (by decide)]) (same_loop r2.1 (by omega) r2.1.length 0 (by omega))

end Go.Proofs.Ythpdologbfigcaa.Pure
