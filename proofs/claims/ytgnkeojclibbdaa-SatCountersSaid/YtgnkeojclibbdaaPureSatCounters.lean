/- SatCounters: a counter is, behind any steps, from 0 to its most, and never goes round; no condition beyond the row's. -/
import Derived.Test.YtgnkeojclibbdaaSat
namespace Go.Proofs.Ytgnkeojclibbdaa.Pure
set_option linter.unusedVariables false
set_option linter.unusedSimpArgs false
open Go.RowKit Go.Proofs.Ytgnkeojclibbdaa.PA Go.Proofs.YtgnkeojclibbdaaW.PrintWords Go.Proofs.YtgnkeojclibbdaaW.PrintMore Go.Proofs.Ytgnkeojclibbdaa.Base Go.Proofs.Ytgnkeojclibbdaa.SatMul Go.Proofs.Ytgnkeojclibbdaa.Sat

theorem count_loop (m : Int) (ups downs : List Int) (hm : 0 ≤ m ∧ m ≤ 4294967295) (hl : ups.length ≤ 1000) (hdl : downs.length ≤ 9223372036854775807) (wu : ∀ x ∈ ups, (Lit.int .u32 x).wf = true) (wd : ∀ x ∈ downs, (Lit.int .u32 x).wf = true) :
    ∀ (t : List Int) (i : Nat) (n : Int), ups.drop i = t → i ≤ ups.length → 0 ≤ n → n ≤ m → Ev (fun k => garboardlaw01_SatCounters.l0 k m downs n ups (ups.length : Int) (i : Int) n m) true := by
  intro t
  induction t with
  | nil =>
    intro i n hd hi h0 h1
    have := drop_end hi hd
    refine Ev.step (f := fun _ => some true) (fun k => ?_) (Ev.now _)
    rw [garboardlaw01_SatCounters.l0, if_neg (by omega)]
    simp only [alive_f]
    decide +kernel
  | cons u t ih =>
    intro i n hd hi h0 h1
    obtain ⟨hr, hlt, hd'⟩ := rd_drop hd
    have hu := wf_u32 (wu u (List.mem_of_mem_drop (by rw [hd]; exact List.mem_cons_self)))
    have e1 : (n + mn u ((m - n) % 4294967296)) % 4294967296 = mn (n + u) m := by unfold mn; (repeat' split) <;> omega
    have e2 : mn (IntKind.u64.wrap (n + IntKind.u64.wrap u)) (IntKind.u64.wrap m) = mn (n + u) m := by rw [wu64 (x := u) (by omega) (by omega), wu64 (x := n + u) (by omega) (by omega), wu64 (x := m) (by omega) (by omega)]
    have b0 : 0 ≤ mn (n + u) m ∧ mn (n + u) m ≤ m := by unfold mn; split <;> omega
    have eb : ∀ c : Int, ((c == m) != (c == IntKind.u64.wrap m)) = false := fun c => by rw [wu64 (x := m) (by omega) (by omega)]; simp
    have ej : ∀ (c : Int), 0 ≤ c → c ≤ m → Ev (fun k => garboardlaw01_SatCounters.j1 k m downs c ups (ups.length : Int) (i : Int) c m) true := by
      intro c c0 c1
      refine Ev.step (f := fun k => garboardlaw01_SatCounters.l0 k m downs c ups (ups.length : Int) ((i + 1 : Nat) : Int) c m) (fun k => ?_) (ih (i + 1) c hd' (by omega) c0 c1)
      rw [garboardlaw01_SatCounters.j1]
      simp only [sat_Counter_N.f, sat_Counter_Full.f, Option.bind_some]
      rw [if_pos (wu64 (by omega) (by omega)), if_neg (by rw [eb]; decide), w64 (by omega) (by omega)]
      rfl
    by_cases hdn : (i : Int) < (downs.length : Int)
    · have hdw : 0 ≤ rd downs (i : Int) ∧ rd downs (i : Int) ≤ 4294967295 := by
        rw [rd_nat, List.getD_eq_getElem?_getD, List.getElem?_eq_getElem (by omega)]
        exact wf_u32 (wd _ (List.getElem_mem _))
      generalize hv : rd downs (i : Int) = v at hdw
      have e3 : (mn (n + u) m - mn v (mn (n + u) m)) % 4294967296 = mn (n + u) m - mn v (mn (n + u) m) := by
        generalize mn (n + u) m = c at *
        unfold mn; split <;> omega
      have e4 : IntKind.u64.wrap (mn (n + u) m - mn (mn (n + u) m) (IntKind.u64.wrap v)) = mn (n + u) m - mn v (mn (n + u) m) := by
        generalize mn (n + u) m = c at *
        rw [wu64 (x := v) (by omega) (by omega), wu64']
        unfold mn; (repeat' split) <;> omega
      have b1 : 0 ≤ mn (n + u) m - mn v (mn (n + u) m) ∧ mn (n + u) m - mn v (mn (n + u) m) ≤ m := by
        generalize mn (n + u) m = c at *
        unfold mn; split <;> omega
      refine Ev.step (f := fun k => garboardlaw01_SatCounters.j1 k m downs (mn (n + u) m - mn v (mn (n + u) m)) ups (ups.length : Int) (i : Int) (mn (n + u) m - mn v (mn (n + u) m)) m) (fun k => ?_) (ej _ b1.1 b1.2)
      rw [garboardlaw01_SatCounters.l0, if_pos (by omega), if_pos (by omega), if_pos (by omega), hr]
      simp only [sat_Counter_Up.f, sat_Counter_Down.f, Option.bind_some]
      rw [if_pos hdn, hv, e1, e2, e3, e4]
    · refine Ev.step (f := fun k => garboardlaw01_SatCounters.j1 k m downs (mn (n + u) m) ups (ups.length : Int) (i : Int) (mn (n + u) m) m) (fun k => ?_) (ej _ b0.1 b0.2)
      rw [garboardlaw01_SatCounters.l0, if_pos (by omega), if_pos (by omega), if_pos (by omega), hr]
      simp only [sat_Counter_Up.f, Option.bind_some]
      rw [if_neg hdn, e1, e2]

theorem SatCounters : garboardlaw01_SatCounters.Pure := by
  intro m ups downs hm hl hu wu hdl hdu wd
  have hm := wf_u32 hm
  refine Ev.rounds ?_
  simp only [garboardlaw01_SatCounters.f, alive_f, Option.bind_some, sat_NewCounter.f]
  by_cases h : (ups.length : Int) > 1000
  · exact ev_ifT h (Ev.now true)
  · refine ev_ifF h ?_
    exact count_loop m ups downs hm (by omega) (by unfold maxLen at hdl; omega) wu wd ups 0 0 rfl (by omega) (by omega) (by omega)

end Go.Proofs.Ytgnkeojclibbdaa.Pure
