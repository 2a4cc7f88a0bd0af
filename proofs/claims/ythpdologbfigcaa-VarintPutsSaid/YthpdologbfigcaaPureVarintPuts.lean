/- VarintPuts: any numbers' bytes, and how many they are, and a signed number folded and unfolded, are the document's; no condition beyond the row's. -/
import Derived.Test.YthpdologbfigcaaVarPut
namespace Go.Proofs.Ythpdologbfigcaa.Pure
set_option linter.unusedVariables false
set_option linter.unusedSimpArgs false
open Go.RowKit Go.Proofs.Ythpdologbfigcaa.PA Go.Proofs.YthpdologbfigcaaW.PrintWords Go.Proofs.Ythpdologbfigcaa.Base Go.Proofs.Ythpdologbfigcaa.Var

theorem puts_loop (b l : List Int) (n : Int) (hb : b.length ≤ 3000) (hl : l.length ≤ 300) (hw : ∀ x ∈ l, (Lit.int .u64 x).wf = true) (hn : (Lit.int .i64 n).wf = true) : ∀ (t : List Int) (i : Nat), l.drop i = t → i ≤ l.length →
    Ev (fun k => garboardlaw02_VarintPuts.l0 k b l n l (l.length : Int) (i : Int)) true := by
  intro t
  induction t with
  | nil =>
    intro i hd hi
    have := drop_end hi hd
    have hn' := wf_i64 hn
    have hu : 0 ≤ IntKind.u64.wrap n ∧ IntKind.u64.wrap n ≤ 18446744073709551615 := by rw [wu64']; omega
    refine Ev.step (f := fun k => (varint_Put.f k b l).bind fun t190 => ((garboardref02_Put.f k b l).bind fun t193 => (if (strOfNums t190).toList = (strOfNums t193).toList then ((varint_Fold.f n).bind fun t196 => ((garboardref02_Fold.f n).bind fun t197 => (if t196 = t197 then ((varint_Unfold.f (IntKind.u64.wrap (n))).bind fun t198 => ((garboardref02_Unfold.f (IntKind.u64.wrap (n))).bind fun t199 => (if t198 = t199 then ((garboardlaw02_alive.f k).bind fun t200 => (some t200)) else (some false)))) else (some false)))) else (some false)))) (fun k => ?_) ?_
    · rw [garboardlaw02_VarintPuts.l0, if_neg (by omega)]
    · rw [fold_f n hn, rfold_f n hn, unfold_f _ hu.1 hu.2, runfold_f _ hu.1 hu.2]
      simp only [Option.bind_some]
      exact Ev.bind (put_ev b l (by omega) (by omega) hw) (Ev.bind (rput_ev b l (by omega) (by omega) hw) (ev_ifT (by trivial) (ev_ifT (by trivial) (ev_ifT (by trivial) (Ev.bind alive_ev (Ev.now true))))))
  | cons x t ih =>
    intro i hd hi
    obtain ⟨hr, hlt, hd'⟩ := rd_drop hd
    have hx := hw x (List.mem_of_mem_drop (by rw [hd]; exact List.mem_cons_self))
    refine Ev.step (f := fun k => (garboardref02_Bytes.f k x).bind fun t187 => (if ((vb x.toNat).length : Int) = (t187.length : Int) then (garboardlaw02_VarintPuts.l0 k b l n l (l.length : Int) ((i + 1 : Nat) : Int)) else (some false))) (fun k => ?_) (Ev.bind (rbytes_ev x hx) (ev_ifT (by trivial) (ih (i + 1) hd' (by omega))))
    rw [garboardlaw02_VarintPuts.l0, if_pos (by omega), if_pos (by omega), if_pos (by omega), hr, size_f x hx, Option.bind_some, w64 (by omega) (by omega)]
    rfl

theorem VarintPuts : garboardlaw02_VarintPuts.Pure := by
  intro b l n _ _ hb _ _ hl hn
  refine Ev.rounds ?_
  simp only [garboardlaw02_VarintPuts.f, garboardlaw02_long.f, Option.bind_some]
  by_cases h : (b.length : Int) > 3000
  · refine ev_ifT (by simpa using h) ?_
    refine Ev.step (f := fun k => (garboardlaw02_alive.f k).bind fun t184 => (some t184)) (fun k => ?_) (Ev.bind alive_ev (Ev.now true))
    rw [garboardlaw02_VarintPuts.j0, if_pos rfl]
  · refine ev_ifF (by simpa using h) ?_
    by_cases h2 : (l.length : Int) > 300
    · rw [decide_eq_true h2]
      refine Ev.step (f := fun k => (garboardlaw02_alive.f k).bind fun t184 => (some t184)) (fun k => ?_) (Ev.bind alive_ev (Ev.now true))
      rw [garboardlaw02_VarintPuts.j0, if_pos rfl]
    · rw [decide_eq_false h2]
      refine Ev.step (f := fun k => garboardlaw02_VarintPuts.l0 k b l n l (l.length : Int) 0) (fun k => ?_) (puts_loop b l n (by omega) (by omega) hl hn l 0 rfl (by omega))
      rw [garboardlaw02_VarintPuts.j0, if_neg (by decide)]

end Go.Proofs.Ythpdologbfigcaa.Pure
