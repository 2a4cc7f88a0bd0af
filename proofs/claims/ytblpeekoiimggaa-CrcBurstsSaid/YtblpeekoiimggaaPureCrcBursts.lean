/- CrcBursts: a sealed text that a burst turned is never opened; no condition beyond the row's. -/
import Derived.Test.YtblpeekoiimggaaCrcFind
import Derived.Test.YtblpeekoiimggaaPAx16
namespace Go.Proofs.Ytblpeekoiimggaa.Pure
set_option linter.unusedVariables false
set_option linter.unusedSimpArgs false
open Go.RowKit Go.Proofs.Ytblpeekoiimggaa.PA Go.Proofs.YtblpeekoiimggaaW.PrintWords Go.Proofs.YtblpeekoiimggaaW.PrintMore Go.Proofs.Ytblpeekoiimggaa.Base Go.Proofs.Ytblpeekoiimggaa.Crc

theorem burst_bytes {l : List Int} (hb : Bytes l) (at_ : Int) (m : B32) : Bytes (burstV l at_ m) := by
  have key : ∀ (n j : Nat) (x : List Int), Bytes x → Bytes (bw at_ m n j x) := by
    intro n
    induction n with
    | zero => intro j x hx; exact hx
    | succ n ih => intro j x hx; exact ih (j + 1) _ (W_bytes hx)
  unfold burstV
  split
  · exact hb
  · exact key 32 0 _ hb
theorem burst_len (l : List Int) (at_ : Int) (m : B32) : (burstV l at_ m).length = l.length := by
  unfold burstV
  split
  · rfl
  · exact bw_len at_ m 32 0 l
theorem CrcBursts : garboardlaw03_CrcBursts.Pure := by
  intro l at_ mask _ _ hw ha hm
  have hb := bytes_of_wf hw
  have ha' := wf_i64 ha
  have hm' := wf_u32 hm
  obtain ⟨m, rfl⟩ := I_of hm'.1 (by omega)
  refine Ev.rounds ?_
  simp only [garboardlaw03_CrcBursts.f, garboardlaw03_long.f, alive_all, Option.bind_some]
  by_cases h : (l.length : Int) > 1000
  · exact ev_ifT (decide_eq_true h) (Ev.now _)
  refine ev_ifF (by simpa using h) ?_
  have hs := seal_len l
  have hbs := seal_bytes hb
  have hbl := burst_len (sealV l) at_ m
  refine Ev.bind (seal_ev l (by omega)) (Ev.bind (burst_ev (sealV l) at_ m (by omega) hbs ha') (Ev.bind (open_ev (burstV (sealV l) at_ m) (by omega)) ?_))
  by_cases e : burstV (sealV l) at_ m = sealV l
  · rw [e, open_seal]
    exact ev_ifT (by trivial) (ev_ifT (by trivial) (ev_ifT (by trivial) (Ev.now _)))
  · rw [burst_found l at_ m hb e]
    refine ev_ifF (fun c => e (str_inj (burst_bytes hbs at_ m) hbs c)) (ev_ifT (by trivial) (ev_ifT (by trivial) (ev_ifT (by rw [hbl]) (Ev.now _))))
end Go.Proofs.Ytblpeekoiimggaa.Pure
