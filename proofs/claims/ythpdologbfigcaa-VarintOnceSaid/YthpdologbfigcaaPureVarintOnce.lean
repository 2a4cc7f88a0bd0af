/- VarintOnce: what is got is put as the same bytes; no condition beyond the row's. -/
import Derived.Test.YthpdologbfigcaaVarGet
import Derived.Test.YthpdologbfigcaaPAx7
namespace Go.Proofs.Ythpdologbfigcaa.Pure
set_option linter.unusedVariables false
set_option linter.unusedSimpArgs false
open Go.RowKit Go.Proofs.Ythpdologbfigcaa.PA Go.Proofs.YthpdologbfigcaaW.PrintWords Go.Proofs.YthpdologbfigcaaW.PrintMore Go.Proofs.Ythpdologbfigcaa.Base Go.Proofs.Ythpdologbfigcaa.Var

theorem wf_of_u64 {n : Int} (h0 : 0 ≤ n) (h1 : n < 18446744073709551616) : (Lit.int .u64 n).wf = true := by
  simp [Lit.wf, IntKind.min, IntKind.max, IntKind.bits, IntKind.signed]; omega
theorem flat_append (a b : List Int) : flat (a ++ b) = flat a ++ flat b := by unfold flat; exact List.flatMap_append
theorem all_back (m : Int) (d : Nat) : ∀ (l acc : List Int), l.length = d → l.length + acc.length ≤ 3000 → Bytes l → (∀ x ∈ acc, (Lit.int .u64 x).wf = true) →
    ∃ r, Ev (fun k => varint_All.l0 k l m acc) r ∧ (r.2 = 0 → flat r.1 = flat acc ++ l ∧ (∀ x ∈ r.1, (Lit.int .u64 x).wf = true) ∧ r.1.length ≤ 3000) := by
  induction d using Nat.strongRecOn with
  | ind d ih =>
    intro l acc hd hl hb ha
    by_cases h0 : (l.length : Int) > 0
    · by_cases h1 : (acc.length : Int) ≥ m
      · exact ⟨([], 5), Ev.step (f := fun _ => some ([], 5)) (fun q => by rw [varint_All.l0, if_pos h0, if_pos h1]) (Ev.now _), fun h => absurd h (by decide)⟩
      · obtain ⟨⟨n, k, e⟩, hg⟩ : ∃ r, gt 0 0 l = r := ⟨_, rfl⟩
        have g1 := get_ev l (by omega) hb
        rw [hg] at g1
        have s1 : ∀ q, varint_All.l0 (q + 1) l m acc = ((varint_Get.f q l).bind fun bt133 => (if bt133.2.2 = 0 then (if acc.length < 17592186044416 then (if 0 ≤ bt133.2.1 then (if bt133.2.1 ≤ (l.length : Int) then (varint_All.l0 q (l.drop (bt133.2.1 : Int).toNat) m (acc ++ [bt133.1])) else (none)) else (none)) else (none)) else (some (([] : List Int), bt133.2.2)))) := fun q => by rw [varint_All.l0, if_pos h0, if_neg h1]
        by_cases he : e = 0
        · subst he
          obtain ⟨n0, n1, ek, hle, htk, k1, k2⟩ := vb_gt0 hb hg
          obtain ⟨r, r1, r2⟩ := ih (l.drop k.toNat).length (by rw [List.length_drop]; omega) (l.drop k.toNat) (acc ++ [n]) rfl (by rw [List.length_drop, List.length_append, List.length_singleton]; omega) (hb.drop _) (fun x hx => by
            rcases List.mem_append.mp hx with h | h
            · exact ha x h
            · rw [List.mem_singleton] at h; subst h; exact wf_of_u64 n0 n1)
          refine ⟨r, Ev.step s1 (Ev.bind g1 (ev_ifT (by trivial) (ev_ifT (by omega) (ev_ifT (show 0 ≤ k by omega) (ev_ifT k2 r1))))), fun hr => ?_⟩
          obtain ⟨q1, q2, q3⟩ := r2 hr
          refine ⟨?_, q2, q3⟩
          rw [q1, flat_append, List.append_assoc]
          refine congrArg (flat acc ++ ·) ?_
          have hk : k.toNat = (vb n.toNat).length := by omega
          show flat [n] ++ l.drop k.toNat = l
          rw [show flat [n] = vb n.toNat by simp [flat], hk]
          conv => rhs; rw [← List.take_append_drop (vb n.toNat).length l, htk]
        · exact ⟨([], e), Ev.step s1 (Ev.bind g1 (ev_ifF he (Ev.now _))), fun h => absurd h he⟩
    · have hl0 : l = [] := List.length_eq_zero_iff.mp (by omega)
      exact ⟨(acc, 0), Ev.step (f := fun _ => some (acc, 0)) (fun q => by rw [varint_All.l0, if_neg h0]) (Ev.now _), fun _ => ⟨by rw [hl0, List.append_nil], ha, by show acc.length ≤ 3000; omega⟩⟩

theorem VarintOnce : garboardlaw02_VarintOnce.Pure := by
  intro l _ _ hw
  have hb := bytes_of_wf hw
  refine Ev.rounds ?_
  simp only [garboardlaw02_VarintOnce.f, garboardlaw02_long.f, Option.bind_some]
  by_cases h : (l.length : Int) > 3000
  · exact ev_ifT (by simpa using h) (Ev.bind alive_ev (Ev.now true))
  refine ev_ifF (by simpa using h) ?_
  obtain ⟨⟨n, k, e⟩, hg⟩ : ∃ r, gt 0 0 l = r := ⟨_, rfl⟩
  have g1 := get_ev l (by omega) hb
  rw [hg] at g1
  refine Ev.bind g1 ?_
  by_cases he : e = 0
  · subst he
    obtain ⟨n0, n1, ek, hle, htk, k1, k2⟩ := vb_gt0 hb hg
    have e1 : Ev (fun k => varint_Put.f k [] [n]) (vb n.toNat) := by
      have := put_ev [] [n] (by simp) (by simp) (fun x hx => by simp only [List.mem_singleton] at hx; subst hx; exact wf_of_u64 n0 n1)
      rw [List.nil_append, show flat [n] = vb n.toNat by simp [flat]] at this; exact this
    refine ev_ifT (by trivial) (ev_ifF (show ¬ k < 1 by omega) (ev_ifF (show ¬ k > (l.length : Int) by omega) (Ev.bind e1 (ev_ifT (show 0 ≤ k by omega) (ev_ifT k2 ?_)))))
    have hk : k.toNat = (vb n.toNat).length := by omega
    dsimp only
    rw [hk, htk, bne_self_eq_false]
    obtain ⟨r, r1, r2⟩ := all_back (l.length : Int) _ l [] rfl (by simp; omega) hb (fun x hx => absurd hx (by simp))
    refine Ev.step (f := fun q => (varint_All.f q l (l.length : Int)).bind fun bt293 => (if bt293.2 = 0 then ((varint_Put.f q ([] : List Int) bt293.1).bind fun t297 => (if (strOfNums t297).toList = (strOfNums l).toList then ((garboardlaw02_alive.f q).bind fun t300 => (some t300)) else (some false))) else ((garboardlaw02_alive.f q).bind fun t301 => (some t301)))) (fun q => by rw [garboardlaw02_VarintOnce.j0, if_neg (by decide)]) (Ev.bind (a := r) r1 ?_)
    by_cases hr : r.2 = 0
    · obtain ⟨q1, q2, q3⟩ := r2 hr
      have e2 := put_ev [] r.1 (by simp) (by omega) q2
      rw [q1, show flat [] = [] from rfl, List.nil_append, List.nil_append] at e2
      exact ev_ifT hr (Ev.bind e2 (ev_ifT (by trivial) (Ev.bind alive_ev (Ev.now true))))
    · exact ev_ifF hr (Ev.bind alive_ev (Ev.now true))
  · obtain ⟨hn, hk, _⟩ := gt_err l 0 0 n k e hg he
    exact ev_ifF he (ev_ifT hn (ev_ifT hk (Ev.bind alive_ev (Ev.now true))))
end Go.Proofs.Ythpdologbfigcaa.Pure
