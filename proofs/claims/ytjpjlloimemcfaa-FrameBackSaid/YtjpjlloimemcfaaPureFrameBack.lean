/- FrameBack: what is laid is parsed, whatever stands behind; no condition beyond the row's. -/
import Derived.Test.YtjpjlloimemcfaaFrame
import Derived.Test.YtjpjlloimemcfaaPAx13
namespace Go.Proofs.Ytjpjlloimemcfaa.Pure
set_option linter.unusedVariables false
set_option linter.unusedSimpArgs false
open Go.RowKit Go.Proofs.Ytjpjlloimemcfaa.PA Go.Proofs.YtjpjlloimemcfaaW.PrintWords Go.Proofs.YtjpjlloimemcfaaW.PrintMore Go.Proofs.Ytjpjlloimemcfaa.Base Go.Proofs.Ytjpjlloimemcfaa.Var Go.Proofs.Ytjpjlloimemcfaa.Frm

theorem far_is (l : List Int) : garboardlaw04_far.f l = some true ∨ (garboardlaw04_far.f l = some false ∧ l.length ≤ 5000) := by
  unfold garboardlaw04_far.f
  by_cases h1 : (l.length : Int) > 1000
  · rw [if_pos h1]
    by_cases h2 : (l.length : Int) ≤ 2048
    · rw [if_pos h2]; exact .inl rfl
    · rw [if_neg h2]
      by_cases h3 : (l.length : Int) > 5000
      · left; rw [decide_eq_true h3]
      · right; rw [decide_eq_false h3]; exact ⟨rfl, by omega⟩
  · rw [if_neg h1]
    right; rw [decide_eq_false (by omega)]; exact ⟨rfl, by omega⟩
theorem FrameBack : garboardlaw04_FrameBack.Pure := by
  intro l t _ _ hw _ _ hw'
  have hb := bytes_of_wf hw
  have ht := bytes_of_wf hw'
  refine Ev.rounds ?_
  unfold garboardlaw04_FrameBack.f
  have hT : Ev (fun k => garboardlaw04_FrameBack.j0 k l t true) true :=
    Ev.step (fun q => (garboardlaw04_FrameBack.j0.eq_2 _ _ _ _).trans (if_pos rfl)) (Ev.now true)
  rcases far_is l with h1 | ⟨h1, hl⟩
  · rw [h1]; exact Ev.bind (Ev.now true) (ev_ifT rfl hT)
  rw [h1]
  refine Ev.bind (Ev.now false) (ev_ifF (by decide) ?_)
  rcases far_is t with h2 | ⟨h2, htl⟩
  · rw [h2]; exact Ev.bind (Ev.now true) hT
  rw [h2]
  refine Ev.bind (Ev.now false) ?_
  refine Ev.step (fun q => (garboardlaw04_FrameBack.j0.eq_2 _ _ _ _).trans (if_neg (by decide))) ?_
  by_cases hm : l.length ≤ 2048
  rotate_left
  · refine Ev.bind (lay_many l (by omega)) ?_
    exact ev_ifF (by decide) (ev_ifT rfl (ev_ifT (by omega) (ev_ifT rfl (Ev.now true))))
  refine Ev.bind (lay_ev l hm) ?_
  have hlen := lay_len l
  have hv := vb2 hm
  dsimp only
  simp only [List.nil_append, Option.bind_some, List.length_nil]
  refine ev_ifT trivial (ev_ifT (by omega) (ev_ifT (by omega) ?_))
  have hp := parse_ev (layV l ++ t) (by rw [List.length_append]; omega) (Bytes.append (lay_bytes hb) ht)
  rw [parse_lay l t hm] at hp
  refine Ev.bind hp (Ev.bind (one_lay l hm hb) ?_)
  exact ev_ifT rfl (ev_ifT rfl (ev_ifT rfl (ev_ifT rfl (ev_ifT rfl (Ev.now true)))))
end Go.Proofs.Ytjpjlloimemcfaa.Pure
