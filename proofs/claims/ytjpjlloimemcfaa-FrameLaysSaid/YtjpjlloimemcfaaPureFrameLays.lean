/- FrameLays: any load's frame, and how many bytes it has, is the document's, or refused; no condition beyond the row's. -/
import Derived.Test.YtjpjlloimemcfaaFrame
import Derived.Test.YtjpjlloimemcfaaPAx21
namespace Go.Proofs.Ytjpjlloimemcfaa.Pure
set_option linter.unusedVariables false
set_option linter.unusedSimpArgs false
open Go.RowKit Go.Proofs.Ytjpjlloimemcfaa.PA Go.Proofs.YtjpjlloimemcfaaW.PrintWords Go.Proofs.YtjpjlloimemcfaaW.PrintMore Go.Proofs.Ytjpjlloimemcfaa.Base Go.Proofs.Ytjpjlloimemcfaa.Var Go.Proofs.Ytjpjlloimemcfaa.Frm

theorem far_is (l : List Int) : garboardlaw04_far.f l = some true ∨ (garboardlaw04_far.f l = some false ∧ l.length ≤ 5000) := by
  unfold garboardlaw04_far.f
  by_cases h1 : (l.length : Int) > 1000
  · rw [if_pos h1]
    by_cases h2 : (l.length : Int) ≤ 2048
    · rw [if_pos h2]; exact .inl rfl
    · rw [if_neg h2]
      by_cases h3 : (l.length : Int) > 5000
      · left; rw [decide_eq_true h3]
      · right; rw [decide_eq_false h3]; exact ⟨rfl, by omega⟩
  · rw [if_neg h1]
    right; rw [decide_eq_false (by omega)]; exact ⟨rfl, by omega⟩
def sizeV (n : Int) : Int := if n < 0 ∨ n > 2048 then 0 else 7 + ((vb n.toNat).length : Int) + n
theorem wf_nn {n : Int} (h0 : 0 ≤ n) (h1 : n ≤ 2048) : (Lit.int .u64 n).wf = true := by
  simp [Lit.wf, IntKind.min, IntKind.max, IntKind.bits, IntKind.signed]; omega
theorem size_ev (n : Int) : Ev (fun k => frame_Size.f k n) (sizeV n) := by
  unfold frame_Size.f sizeV
  by_cases h0 : n < 0
  · rw [if_pos (Or.inl h0)]
    exact ev_ifT h0 (Ev.step (fun q => (frame_Size.j0.eq_2 _ _ _).trans (if_pos rfl)) (Ev.now 0))
  by_cases h1 : n > 2048
  · rw [if_pos (Or.inr h1), decide_eq_true h1]
    exact ev_ifF h0 (Ev.step (fun q => (frame_Size.j0.eq_2 _ _ _).trans (if_pos rfl)) (Ev.now 0))
  rw [if_neg (by omega), decide_eq_false h1]
  refine ev_ifF h0 (Ev.step (fun q => (frame_Size.j0.eq_2 _ _ _).trans (if_neg (by decide))) ?_)
  have hv := vb2 (n := n.toNat) (by omega)
  rw [wu64 (x := n) (by omega) (by omega), mark_all, size_f n (wf_nn (by omega) (by omega))]
  refine Ev.bind (Ev.now _) (Ev.bind (Ev.now _) (ev_some ?_))
  show wrap64 (wrap64 (wrap64 (wrap64 ((2 : Int) + 1) + ((vb n.toNat).length : Int)) + n) + 4) = _
  rw [w64 (x := (2 : Int) + 1) (by omega) (by omega), w64 (x := 2 + 1 + ((vb n.toNat).length : Int)) (by omega) (by omega), w64 (x := 2 + 1 + ((vb n.toNat).length : Int) + n) (by omega) (by omega), w64 (by omega) (by omega)]
  omega
theorem rsize_ev (n : Int) : Ev (fun k => garboardref04_Size.f k n) (sizeV n) := by
  unfold garboardref04_Size.f sizeV
  by_cases h0 : n < 0
  · rw [if_pos (Or.inl h0)]; exact ev_ifT h0 (Ev.now 0)
  by_cases h1 : n > 2048
  · rw [if_pos (Or.inr h1)]; exact ev_ifF h0 (ev_ifT h1 (Ev.now 0))
  rw [if_neg (by omega)]
  refine ev_ifF h0 (ev_ifF h1 ?_)
  have hv := vb2 (n := n.toNat) (by omega)
  rw [wu64 (x := n) (by omega) (by omega)]
  refine Ev.bind (rbytes_ev n (wf_nn (by omega) (by omega))) (ev_some ?_)
  rw [w64 (x := 3 + ((vb n.toNat).length : Int)) (by omega) (by omega), w64 (x := 3 + ((vb n.toNat).length : Int) + n) (by omega) (by omega), w64 (by omega) (by omega)]
  omega
theorem rlay_ev (l : List Int) (hl : l.length ≤ 2048) (hb : Bytes l) : Ev (fun k => garboardref04_Lay.f k l) (layV l, 0) := by
  have hv := vb2 hl
  unfold garboardref04_Lay.f
  refine ev_ifF (by omega) (Ev.bind (Ev.now _) ?_)
  rw [wu64 (x := (l.length : Int)) (by omega) (by omega)]
  refine Ev.bind (rbytes_ev (l.length : Int) (wfLen (by omega))) ?_
  rw [Int.toNat_natCast]
  refine ev_ifT (by simp only [List.length_cons, List.length_nil]; omega) (Ev.bind (Ev.now _) ?_)
  refine ev_ifT (by simp only [List.length_append, List.length_cons, List.length_nil]; omega) ?_
  exact Ev.bind (Crc.rseal_ev (bodyV l) (by rw [body_len]; omega) (body_bytes hb)) (Ev.now _)
theorem FrameLays : garboardlaw04_FrameLays.Pure := by
  intro l n _ _ hw _
  have hb := bytes_of_wf hw
  refine Ev.rounds ?_
  unfold garboardlaw04_FrameLays.f
  rcases far_is l with h1 | ⟨h1, hl⟩
  · rw [h1]; exact Ev.bind (Ev.now true) (ev_ifT rfl (Ev.now true))
  rw [h1]
  refine Ev.bind (Ev.now false) (ev_ifF (by decide) ?_)
  by_cases hm : l.length ≤ 2048
  · refine Ev.bind (lay_ev l hm) (Ev.bind (rlay_ev l hm hb) ?_)
    dsimp only
    refine ev_ifT rfl (ev_ifT rfl (Ev.bind (size_ev n) (Ev.bind (rsize_ev n) (ev_ifT rfl (Ev.bind (size_ev _) ?_)))))
    refine ev_ifT ?_ (Ev.now true)
    have hlen := lay_len l
    unfold sizeV
    rw [if_neg (by omega), Int.toNat_natCast]; omega
  · refine Ev.bind (lay_many l (by omega)) (Ev.bind (a := ([], 5)) ?_ ?_)
    · unfold garboardref04_Lay.f
      exact ev_ifT (by omega) (Ev.now _)
    dsimp only
    refine ev_ifT rfl (ev_ifT rfl (Ev.bind (size_ev n) (Ev.bind (rsize_ev n) (ev_ifT rfl (Ev.bind (size_ev _) ?_)))))
    refine ev_ifT ?_ (Ev.now true)
    unfold sizeV
    rw [if_pos (by omega)]; rfl
end Go.Proofs.Ytjpjlloimemcfaa.Pure
