/- Add: numbers counted in boxes; no condition but those that stand in each. -/
import Derived.Test.YtmhhklmfnhgbbaaHist
namespace Go.Proofs.Ytmhhklmfnhgbbaa.Hst
set_option linter.unusedVariables false
set_option linter.unusedSimpArgs false
open Go.RowKit Go.Proofs.Ytmhhklmfnhgbbaa.PA Go.Proofs.YtmhhklmfnhgbbaaW.PrintWords Go.Proofs.YtmhhklmfnhgbbaaW.PrintLast Go.Proofs.YtmhhklmfnhgbbaaW.PrintMore
attribute [local go_sem] max2_int min2_int max_two min_two max_three min_three max_four min_four
/-- A row of whole numbers as it lies. -/
def RowI (w : World) (A : Option Addr) (l : List Int) : Prop := ∀ (j : Nat) (x : Int), l[j]? = some x → ∃ a, A = some a ∧ w.cell? (a.add j) = some (.int .i64 x)
theorem add_block (a : Addr) (j : Nat) : (a.add j).block = a.block := by unfold Addr.add; split <;> rfl
theorem KeepBut.cell {w w' : World} {g : Nat} (h : KeepBut w w' g none) {a : Addr} {v : Value} (hc : w.cell? a = some v) (hn : a.block ≠ g) : w'.cell? a = some v := by
  have := h.2 a.block (World.block_lt_of_cell? w a hc) hn (by simp)
  rw [← hc]
  unfold World.cell?
  rw [this]
theorem RowI.keep {w w' : World} {g : Nat} {A : Option Addr} {l : List Int} (h : RowI w A l) (hk : KeepBut w w' g none) (hn : ∀ a, A = some a → a.block ≠ g) : RowI w' A l := fun j x hx => by
  obtain ⟨a, ha, hc⟩ := h j x hx
  exact ⟨a, ha, KeepBut.cell hk hc (by rw [add_block]; exact hn a ha)⟩
def addS (p : List Int × Int) (n : Int) : List Int × Int :=
  if p.1.getD (boxV n).toNat 0 < 4294967295 then (p.1.set (boxV n).toNat (p.1.getD (boxV n).toNat 0 + 1), p.2 + 1) else p
def addV (xs : List Int) (l : List Int) : List Int × Int := l.foldl addS (xs, 0)
theorem addV_take {xs l : List Int} {i : Nat} {x : Int} (h : l[i]? = some x) : addV xs (l.take (i + 1)) = addS (addV xs (l.take i)) x := by
  obtain ⟨hi, rfl⟩ := List.getElem?_eq_some_iff.1 h
  unfold addV
  rw [List.take_succ_eq_append_getElem hi, List.foldl_append]; rfl
def Cnt (xs : List Int) : Prop := ∀ x ∈ xs, 0 ≤ x ∧ x ≤ 4294967295
theorem Cnt.get {xs : List Int} (h : Cnt xs) (k : Nat) : 0 ≤ xs.getD k 0 ∧ xs.getD k 0 ≤ 4294967295 := by
  rw [List.getD_eq_getElem?_getD]
  cases e : xs[k]? with
  | none => exact ⟨by decide, by decide⟩
  | some v => exact h v (List.mem_of_getElem? e)
theorem Cnt.set {xs : List Int} (h : Cnt xs) (k : Nat) {v : Int} (h0 : 0 ≤ v) (h1 : v ≤ 4294967295) : Cnt (xs.set k v) := fun x hx => by
  rcases List.mem_or_eq_of_mem_set hx with h' | rfl
  · exact h x h'
  · exact ⟨h0, h1⟩
theorem addS_cnt {p : List Int × Int} (h : Cnt p.1) (n : Int) : Cnt (addS p n).1 := by
  have := h.get (boxV n).toNat
  unfold addS
  split
  · exact h.set _ (by omega) (by omega)
  · exact h
theorem addV_inv (xs : List Int) (h : Cnt xs) (l : List Int) : Cnt (addV xs l).1 ∧ 0 ≤ (addV xs l).2 ∧ (addV xs l).2 ≤ l.length ∧ (addV xs l).1.length = xs.length := by
  have key : ∀ (l : List Int) (p : List Int × Int), Cnt p.1 → Cnt (l.foldl addS p).1 ∧ p.2 ≤ (l.foldl addS p).2 ∧ (l.foldl addS p).2 ≤ p.2 + l.length ∧ (l.foldl addS p).1.length = p.1.length := by
    intro l
    induction l with
    | nil => intro p hp; exact ⟨hp, Int.le_refl _, by simp, rfl⟩
    | cons n l ih =>
      intro p hp
      obtain ⟨a, b, c, d⟩ := ih (addS p n) (addS_cnt hp n)
      have e : p.2 ≤ (addS p n).2 ∧ (addS p n).2 ≤ p.2 + 1 ∧ (addS p n).1.length = p.1.length := by
        unfold addS
        split
        · exact ⟨by show p.2 ≤ p.2 + 1; omega, Int.le_refl _, by rw [List.length_set]⟩
        · exact ⟨Int.le_refl _, by omega, rfl⟩
      refine ⟨a, by rw [List.foldl_cons]; omega, by rw [List.foldl_cons, List.length_cons]; omega, by rw [List.foldl_cons]; omega⟩
  obtain ⟨a, b, c, d⟩ := key l (xs, 0) h
  exact ⟨a, b, by simpa [addV] using c, d⟩
set_option maxHeartbeats 4000000 in
set_option maxRecDepth 100000 in
theorem add_c (g : Nat) (xs : List Int) (A : Option Addr) (cp : Nat) (l : List Int) (w0 w : World) (hI : IsH w0 w g xs) (hB : Below w0.heap.size w0 w) (hx : Cnt xs) (hr : RowI w A l) (hn : 0 < l.length → ∀ a, A = some a → a.block ≠ g) (hc : l.length ≤ cp) (hm : l.length ≤ 1000000) (hw : ∀ x ∈ l, x ≤ 9223372036854775807) :
    Calls Try.prog 14 #[.pointer (some ⟨g, 0, none⟩), .slice A l.length cp] w fun e w' => e = .returned (.int .i64 (addV xs l).2) ∧ IsH w0 w' g (addV xs l).1 ∧ Below w0.heap.size w0 w' ∧ KeepBut w w' g none := by
  have HI := Aside0.mk hI
  have HB := Aside0.mk hB
  have HR := Aside0.mk hr
  have HN := Aside0.mk hn
  have HX := Aside0.mk hx
  have HW := Aside0.mk hw
  have HK := Aside0.mk (KeepBut.refl w g none)
  clear hI hB hr hn hx hw
  go_enter Try.func14, Try.ntmps14
  go_wp2_with fail
  go_loopw [5, 13] (fun vm vi wr => ∃ i : Nat, vi = .int .i64 i ∧ vm = .int .i64 (addV xs (l.take i)).2 ∧ Aside0 (i ≤ l.length) ∧ Aside0 (IsH w0 wr g (addV xs (l.take i)).1) ∧ Aside0 (Below w0.heap.size w0 wr) ∧ Aside0 (KeepBut w wr g none)) (fun _ vi _ => (l.length - intOf vi).toNat)
  case atStart => exact ⟨0, rfl, rfl, ⟨Nat.zero_le _⟩, HI, HB, HK⟩
  case round =>
    clear HI HB HK
    obtain ⟨i, rfl, rfl, HL, HI, HB, HK⟩ := hrel
    have l1 := HL.out
    by_cases hlt : i < l.length
    · obtain ⟨x, hx⟩ : ∃ x, l[i]? = some x := ⟨_, List.getElem?_eq_getElem hlt⟩
      obtain ⟨a, rfl, h0⟩ := HR.out i x hx
      have k0 := KeepBut.cell HK.out h0 (by rw [add_block]; exact HN.out (by omega) a rfl)
      have hxw := HW.out x (List.mem_of_getElem? hx)
      have EX := Aside0.mk (addV_take (xs := xs) hx)
      obtain ⟨p, hp⟩ : ∃ p, addV xs (l.take i) = p := ⟨_, rfl⟩
      have inv := addV_inv xs HX.out (l.take i)
      rw [hp] at inv
      have hlen : (l.take i).length = i := by rw [List.length_take]; omega
      rw [hlen] at inv
      obtain ⟨i1, i2, i3, i4⟩ := inv
      have EX2 := Aside0.mk (show addV xs (l.take (i + 1)) = addS p x by rw [EX.out, hp])
      have HI2 := Aside0.mk (show IsH w0 wr g p.1 by rw [← hp]; exact HI.out)
      clear HI EX hx h0
      rw [hp]
      clear hp hlen
      have bb := boxV_bd hxw
      have BX := Aside0.mk (box_q x hxw)
      obtain ⟨b, hb⟩ : ∃ b, boxV x = b := ⟨_, rfl⟩
      have HBX := Aside0.mk hb
      rw [hb] at bb BX
      clear hb
      obtain ⟨q, rfl⟩ := Int.eq_ofNat_of_zero_le bb.1
      have hq : q < 305 := by omega
      have hcell := HI2.out.read hq
      have hfree := HI2.out.free q
      have cq := i1.get q
      obtain ⟨v, hv⟩ : ∃ v, p.1.getD q 0 = v := ⟨_, rfl⟩
      rw [hv] at hcell cq
      have HV := Aside0.mk hv
      clear hv i1 i4
      by_cases hlt2 : v < 4294967295
      · have E3 := Aside0.mk (show addS p x = (p.1.set q (v + 1), p.2 + 1) by unfold addS; rw [HBX.out, Int.toNat_natCast, HV.out, if_pos hlt2])
        go_wp2_with fail
        go_quiet ((go_at_call 10; exact Calls.quiet_of_same (BX.out _)))
        go_wp2_with fail
        go_roundw
        case rel => exact ⟨i + 1, by go_num, by rw [EX2.out, E3.out], ⟨by omega⟩, ⟨by rw [EX2.out, E3.out]; exact (HI2.out.drew _).put q (v + 1)⟩, ⟨below_set (pw_below_drewN HB.out _) HI2.out.2.2⟩, ⟨KeepBut.set_ (keep_drewN HK.out _) _ _⟩⟩
        case measure => simp [intOf]; omega
      · have E3 := Aside0.mk (show addS p x = p by unfold addS; rw [HBX.out, Int.toNat_natCast, HV.out, if_neg hlt2])
        go_wp2_with fail
        go_quiet ((go_at_call 10; exact Calls.quiet_of_same (BX.out _)))
        go_wp2_with fail
        go_roundw
        case rel => exact ⟨i + 1, by go_num, by rw [EX2.out, E3.out], ⟨by omega⟩, ⟨by rw [EX2.out, E3.out]; exact HI2.out.drew _⟩, ⟨pw_below_drewN HB.out _⟩, ⟨keep_drewN HK.out _⟩⟩
        case measure => simp [intOf]; omega
    · have e : l.take i = l := List.take_of_length_le (by omega)
      rw [e] at HI ⊢
      go_wp2_with fail
      go_ret
      exact ⟨rfl, HI.out, HB.out, HK.out⟩
end Go.Proofs.Ytmhhklmfnhgbbaa.Hst
