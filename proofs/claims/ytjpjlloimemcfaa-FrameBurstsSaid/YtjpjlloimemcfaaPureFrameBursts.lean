/- FrameBursts: a frame of which a burst turned some bits, but none of its first seven bytes, is never parsed; no condition beyond the row's. -/
import Derived.Test.YtjpjlloimemcfaaFrame
import Derived.Test.YtjpjlloimemcfaaCrcFind
import Derived.Test.YtjpjlloimemcfaaPAx15
namespace Go.Proofs.Ytjpjlloimemcfaa.Pure
set_option linter.unusedVariables false
set_option linter.unusedSimpArgs false
open Go.RowKit Go.Proofs.Ytjpjlloimemcfaa.PA Go.Proofs.YtjpjlloimemcfaaW.PrintWords Go.Proofs.YtjpjlloimemcfaaW.PrintMore Go.Proofs.Ytjpjlloimemcfaa.Base Go.Proofs.Ytjpjlloimemcfaa.Frm

theorem far_is (l : List Int) : garboardlaw04_far.f l = some true ∨ (garboardlaw04_far.f l = some false ∧ l.length ≤ 5000) := by
  unfold garboardlaw04_far.f
  by_cases h1 : (l.length : Int) > 1000
  · rw [if_pos h1]
    by_cases h2 : (l.length : Int) ≤ 2048
    · rw [if_pos h2]; exact .inl rfl
    · rw [if_neg h2]
      by_cases h3 : (l.length : Int) > 5000
      · left; rw [decide_eq_true h3]
      · right; rw [decide_eq_false h3]; exact ⟨rfl, by omega⟩
  · rw [if_neg h1]
    right; rw [decide_eq_false (by omega)]; exact ⟨rfl, by omega⟩
theorem burst_bytes {l : List Int} (hb : Crc.Bytes l) (at_ : Int) (m : Crc.B32) : Crc.Bytes (Crc.burstV l at_ m) := by
  have key : ∀ (n j : Nat) (x : List Int), Crc.Bytes x → Crc.Bytes (Crc.bw at_ m n j x) := by
    intro n
    induction n with
    | zero => intro j x hx; exact hx
    | succ n ih => intro j x hx; exact ih (j + 1) _ (Crc.W_bytes hx)
  unfold Crc.burstV
  split
  · exact hb
  · exact key 32 0 _ hb
theorem burst_len (l : List Int) (at_ : Int) (m : Crc.B32) : (Crc.burstV l at_ m).length = l.length := by
  unfold Crc.burstV
  split
  · rfl
  · exact Crc.bw_len at_ m 32 0 l
/-- What begins as a frame does, and is not it, is not parsed. -/
theorem parse_burst (l : List Int) (hl : l.length ≤ 2048) (hb : Crc.Bytes l) (at_ : Int) (m : Crc.B32) (h7 : (Crc.burstV (layV l) at_ m).take 7 = (layV l).take 7) (hne : Crc.burstV (layV l) at_ m ≠ layV l) :
    parseV (Crc.burstV (layV l) at_ m) = ([], 0, 8) := by
  have hv := Frm.vb2 hl
  have hlen := lay_len l
  have hbl := burst_len (layV l) at_ m
  have ho := Crc.burst_found (bodyV l) at_ m (body_bytes hb) hne
  obtain ⟨t, ht⟩ : ∃ t, Crc.burstV (layV l) at_ m = t := ⟨_, rfl⟩
  have ho' : Crc.openV t = ([], 8) := by rw [← ht]; exact ho
  rw [ht] at h7 hbl ⊢
  clear ho hne
  obtain ⟨s, hs⟩ : ∃ s, t = [71, 98, 1] ++ Var.vb l.length ++ s := by
    have e0 : layV l = ([71, 98, 1] ++ Var.vb l.length) ++ (l ++ Crc.b4 (Crc.sumV (bodyV l))) := by simp [layV, Crc.sealV, bodyV]
    have e1 : ([71, 98, 1] ++ Var.vb l.length : List Int).length ≤ 7 := by simp only [List.length_append, List.length_cons, List.length_nil]; omega
    have e2 : t.take ([71, 98, 1] ++ Var.vb l.length : List Int).length = [71, 98, 1] ++ Var.vb l.length := by
      have := congrArg (List.take ([71, 98, 1] ++ Var.vb l.length : List Int).length) h7
      rw [List.take_take, List.take_take, Nat.min_eq_left e1, e0, List.take_left' rfl] at this
      exact this
    refine ⟨t.drop ([71, 98, 1] ++ Var.vb l.length : List Int).length, ?_⟩
    have := List.take_append_drop ([71, 98, 1] ++ Var.vb l.length : List Int).length t
    rw [e2] at this
    exact this.symm
  have hh : headV t = ((l.length : Int), 3 + ((Var.vb l.length).length : Int), 0) := by rw [hs]; exact head_of hl
  unfold parseV
  rw [hh]
  dsimp only
  have e1 : (3 + ((Var.vb l.length).length : Int) + (l.length : Int) + 4).toNat = t.length := by omega
  rw [if_pos rfl, if_neg (by omega), e1, List.take_length, ho', if_neg (by decide)]
theorem FrameBursts : garboardlaw04_FrameBursts.Pure := by
  intro l at_ mask _ _ hw ha hm
  have hb := Crc.bytes_of_wf hw
  have ha' := wf_i64 ha
  have hm' := wf_u32 hm
  obtain ⟨m, rfl⟩ := Crc.I_of hm'.1 (by omega)
  refine Ev.rounds ?_
  unfold garboardlaw04_FrameBursts.f
  rcases far_is l with h1 | ⟨h1, hl⟩
  · rw [h1]; exact Ev.bind (Ev.now true) (ev_ifT rfl (Ev.now true))
  rw [h1]
  refine Ev.bind (Ev.now false) (ev_ifF (by decide) ?_)
  by_cases hm : l.length ≤ 2048
  rotate_left
  · refine Ev.bind (lay_many l (by omega)) ?_
    exact ev_ifF (by decide) (ev_ifT rfl (Ev.now true))
  refine Ev.bind (lay_ev l hm) ?_
  have hlen := lay_len l
  have hv := Frm.vb2 hm
  have hvp := Var.vb_pos l.length
  have hbs := lay_bytes hb
  have hbl := burst_len (layV l) at_ m
  dsimp only
  refine ev_ifT rfl (Ev.bind (Crc.burst_ev (layV l) at_ m (by omega) hbs ha') ?_)
  have hT : Ev (fun k => garboardlaw04_FrameBursts.j0 k (layV l) (Crc.burstV (layV l) at_ m) true) true :=
    Ev.step (fun q => (garboardlaw04_FrameBursts.j0.eq_2 _ _ _ _).trans (if_pos rfl)) (ev_ifT (by omega) (ev_ifT (by omega) (Ev.now true)))
  refine ev_ifF (by omega) (ev_ifT (by omega) (ev_ifT (by omega) (ev_ifT (by omega) ?_)))
  by_cases h7 : (strOfNums ((Crc.burstV (layV l) at_ m).take 7)).toList = (strOfNums ((layV l).take 7)).toList
  rotate_left
  · exact ev_ifF h7 hT
  refine ev_ifT h7 ?_
  have hbb := burst_bytes hbs at_ m
  have h7' := Crc.str_inj (Crc.Bytes.take hbb 7) (Crc.Bytes.take hbs 7) h7
  by_cases e : Crc.burstV (layV l) at_ m = layV l
  · rw [e] at hT ⊢
    rw [show ((strOfNums (layV l)).toList == (strOfNums (layV l)).toList) = true from beq_self_eq_true _]
    exact hT
  · have hf : ((strOfNums (Crc.burstV (layV l) at_ m)).toList == (strOfNums (layV l)).toList) = false := by
      rw [beq_eq_false_iff_ne]
      exact fun c => e (Crc.str_inj hbb hbs c)
    rw [hf]
    refine Ev.step (fun q => (garboardlaw04_FrameBursts.j0.eq_2 _ _ _ _).trans (if_neg (by decide))) ?_
    have hp := parse_ev (Crc.burstV (layV l) at_ m) (by omega) hbb
    rw [parse_burst l hm hb at_ m h7' e] at hp
    exact Ev.bind hp (ev_ifT rfl (ev_ifT rfl (ev_ifT rfl (Ev.now true))))
end Go.Proofs.Ytjpjlloimemcfaa.Pure
