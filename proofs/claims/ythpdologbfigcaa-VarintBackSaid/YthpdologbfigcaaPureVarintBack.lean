/- VarintBack: what is put is got, whatever stands behind; folding is undone by unfolding; no condition beyond the row's. -/
import Derived.Test.YthpdologbfigcaaVarGet
namespace Go.Proofs.Ythpdologbfigcaa.Pure
set_option linter.unusedVariables false
set_option linter.unusedSimpArgs false
open Go.RowKit Go.Proofs.Ythpdologbfigcaa.PA Go.Proofs.YthpdologbfigcaaW.PrintWords Go.Proofs.YthpdologbfigcaaW.PrintMore Go.Proofs.Ythpdologbfigcaa.Base Go.Proofs.Ythpdologbfigcaa.Var

theorem bytes_append {a b : List Int} (ha : Bytes a) (hb : Bytes b) : Bytes (a ++ b) := fun x hx => (List.mem_append.mp hx).elim (ha x) (hb x)

theorem VarintBack : garboardlaw02_VarintBack.Pure := by
  intro n p t hn _ _ hp _ _ ht
  have hn' := wf_u64 hn
  have bp := bytes_of_wf hp
  have bt_ := bytes_of_wf ht
  refine Ev.rounds ?_
  simp only [garboardlaw02_VarintBack.f, garboardlaw02_long.f, Option.bind_some]
  have hT : Ev (fun k => garboardlaw02_VarintBack.j0 k n p t true) true := Ev.step (f := fun k => (garboardlaw02_alive.f k).bind fun x => some x) (fun q => by rw [garboardlaw02_VarintBack.j0, if_pos rfl]) (Ev.bind alive_ev (Ev.now true))
  by_cases h1 : (p.length : Int) > 3000
  · exact ev_ifT (by simpa using h1) hT
  refine ev_ifF (by simpa using h1) ?_
  by_cases h2 : (t.length : Int) > 3000
  · rw [decide_eq_true h2]; exact hT
  rw [decide_eq_false h2]
  have l10 := vb_len10 (n := n.toNat) (by omega)
  have lp10 := vb_len10 (n := p.length) (by omega)
  have f1 : flat [n] = vb n.toNat := by simp [flat]
  have hwl : (Lit.int .u64 (p.length : Int)).wf = true := by simp [Lit.wf, IntKind.min, IntKind.max, IntKind.bits, IntKind.signed]; omega
  have f2 : flat [(p.length : Int)] = vb p.length := by simp [flat]
  have e1 : Ev (fun k => varint_Put.f k [] [n]) (vb n.toNat) := by
    have := put_ev [] [n] (by simp) (by simp) (fun x hx => by simp only [List.mem_singleton] at hx; subst hx; exact hn)
    rw [List.nil_append, f1] at this; exact this
  have e2 : Ev (fun k => varint_Put.f k [] [(p.length : Int)]) (vb p.length) := by
    have := put_ev [] [(p.length : Int)] (by simp) (by simp) (fun x hx => by simp only [List.mem_singleton] at hx; subst hx; exact hwl)
    rw [List.nil_append, f2] at this; exact this
  have e3 : Ev (fun k => varint_Get.f k (vb n.toNat ++ t)) (n, ((vb n.toNat).length : Int), 0) := by
    have := get_ev (vb n.toNat ++ t) (by rw [List.length_append]; omega) (bytes_append (vb_bytes _) bt_)
    rw [gt_vb0 t n.toNat (by omega), show ((n.toNat : Nat) : Int) = n from by omega] at this; exact this
  have e4 : Ev (fun k => varint_PutBytes.f k [] p) (vb p.length ++ p) := by
    unfold varint_PutBytes.f
    rw [wu64 (x := (p.length : Int)) (by omega) (by omega)]
    exact Ev.bind e2 (ev_ifT (by omega) (Ev.now _))
  have e5 : Ev (fun k => varint_Get.f k (vb p.length ++ p ++ t)) ((p.length : Int), ((vb p.length).length : Int), 0) := by
    have := get_ev (vb p.length ++ p ++ t) (by simp only [List.length_append]; omega) (bytes_append (bytes_append (vb_bytes _) bp) bt_)
    rw [List.append_assoc, gt_vb0 (p ++ t) p.length (by omega), ← List.append_assoc] at this; exact this
  have e6 : Ev (fun k => varint_GetBytes.f k (vb p.length ++ p ++ t) (p.length : Int)) (p, ((vb p.length ++ p).length : Int), 0) := by
    unfold varint_GetBytes.f
    refine Ev.bind e5 (ev_ifT (by trivial) ?_)
    dsimp only
    refine ev_ifF ?_ ?_
    · rw [show mx (p.length : Int) 0 = p.length from by unfold mx; split <;> omega, wu64 (by omega) (by omega)]; omega
    · rw [decide_eq_false (show ¬ (p.length : Int) < 0 by omega)]
      have hlen : ((vb p.length ++ p ++ t).length : Int) = (vb p.length).length + p.length + t.length := by simp only [List.length_append]; omega
      have ee : wrap64 (((vb p.length).length : Int) + wrap64 (p.length : Int)) = ((vb p.length ++ p).length : Int) := by rw [w64 (x := (p.length : Int)) (by omega) (by omega), w64 (by omega) (by omega), List.length_append]; omega
      have es : ((vb p.length ++ p ++ t).take ((((vb p.length ++ p).length : Nat) : Int)).toNat).drop ((((vb p.length).length : Nat) : Int)).toNat = p := by
        rw [Int.toNat_natCast, Int.toNat_natCast, List.take_left' rfl, List.drop_left' rfl]
      refine Ev.step (f := fun _ => some (p, ((vb p.length ++ p).length : Int), 0)) (fun q => ?_) (Ev.now _)
      rw [varint_GetBytes.j0, if_neg (by decide), w64 (x := ((vb p.length ++ p ++ t).length : Int) - _) (by omega) (by omega), wu64 (by omega) (by omega), if_neg (by omega), if_pos (by omega), ee, if_pos (by rw [List.length_append]; omega), if_pos (by rw [hlen, List.length_append]; omega), es, bytes_Clone.f, if_pos (by omega), Option.bind_some]
  have u0 : 0 ≤ unfoldI n ∨ unfoldI n < 0 := by omega
  have hu : (Lit.int .i64 (unfoldI n)).wf = true := by
    simp only [Lit.wf, IntKind.min, IntKind.max, IntKind.bits, IntKind.signed]
    unfold unfoldI
    simp; split <;> omega
  have hf : foldI (unfoldI n) = n := by unfold foldI unfoldI; (repeat' split) <;> omega
  have hwn : (Lit.int .i64 (wrap64 n)).wf = true := by
    simp only [Lit.wf, IntKind.min, IntKind.max, IntKind.bits, IntKind.signed]
    unfold wrap64; simp; omega
  have hw64 := wf_i64 hwn
  have hfu : unfoldI (foldI (wrap64 n)) = wrap64 n := by unfold unfoldI foldI; (repeat' split) <;> omega
  have hfb : 0 ≤ foldI (wrap64 n) ∧ foldI (wrap64 n) ≤ 18446744073709551615 := by unfold foldI; split <;> omega
  refine Ev.step (f := fun k => (varint_Put.f k [] [n]).bind fun t223 => if t223.length + t.length < 140737488355328 then (varint_Get.f k (t223 ++ t)).bind fun bt229 => (varint_PutBytes.f k [] p).bind fun t232 => if t232.length + t.length < 140737488355328 then (varint_GetBytes.f k (t232 ++ t) (p.length : Int)).bind fun bt238 => if bt229.1 = n then (varint_Size.f n).bind fun t243 => if bt229.2.1 = t243 then if bt229.2.2 = 0 then if (strOfNums bt238.1).toList = (strOfNums p).toList then if bt238.2.1 = (t232.length : Int) then if bt238.2.2 = 0 then (varint_Unfold.f n).bind fun t244 => (varint_Fold.f t244).bind fun t245 => if t245 = n then (varint_Fold.f (wrap64 n)).bind fun t246 => (varint_Unfold.f t246).bind fun t247 => if t247 = wrap64 n then (garboardlaw02_alive.f k).bind fun t248 => some t248 else some false else some false else some false else some false else some false else some false else some false else some false else none else none) (fun q => ?_) ?_
  · rw [garboardlaw02_VarintBack.j0, if_neg (by decide)]
  · rw [size_f n hn, unfold_f n hn'.1 hn'.2, fold_f _ hwn]
    simp only [Option.bind_some]
    rw [fold_f _ hu, unfold_f _ hfb.1 hfb.2]
    simp only [Option.bind_some]
    refine Ev.bind e1 (ev_ifT (by omega) (Ev.bind e3 (Ev.bind e4 (ev_ifT (by rw [List.length_append]; omega) (Ev.bind e6 ?_)))))
    exact ev_ifT (by trivial) (ev_ifT (by trivial) (ev_ifT (by trivial) (ev_ifT (by trivial) (ev_ifT (by trivial) (ev_ifT (by trivial) (ev_ifT hf (ev_ifT hfu (Ev.bind alive_ev (Ev.now true)))))))))

end Go.Proofs.Ythpdologbfigcaa.Pure
