/- The document's Hist: its block; under way. -/
import Derived.Test.YtmhhklmfnhgbbaaHistReset
import Derived.Test.YtmhhklmfnhgbbaaHistRef
namespace Go.Proofs.Ytmhhklmfnhgbbaa.Hst
set_option linter.unusedVariables false
set_option linter.unusedSimpArgs false
open Go.RowKit Go.Proofs.Ytmhhklmfnhgbbaa.PA Go.Proofs.YtmhhklmfnhgbbaaW.PrintWords Go.Proofs.YtmhhklmfnhgbbaaW.PrintLast Go.Proofs.YtmhhklmfnhgbbaaW.PrintMore
abbrev ZR : Array Value := (nums .u64 zs).toArray
set_option maxRecDepth 100000 in
theorem zero41 (w : World) : (zeroValue 41).run Try.prog w = .ok (.agg ZR) w := by kernel_rfl
def IsD (w0 W : World) (g : Nat) (xs : List Int) : Prop := W.heap[g]? = some (.cells (nums .u64 xs).toArray 41 (0, 0)) ∧ xs.length = 305 ∧ w0.heap.size ≤ g
theorem IsD.read {w0 W : World} {g : Nat} {xs : List Int} (h : IsD w0 W g xs) {k : Nat} (hk : k < 305) : W.cell? ⟨g, k, none⟩ = some (.int .u64 (xs.getD k 0)) := by
  refine (blk_cell h.1 k).trans ?_
  have hl : k < xs.length := by rw [h.2.1]; exact hk
  simp [nums, List.getD_eq_getElem?_getD, List.getElem?_eq_getElem hl]
theorem IsD.free {w0 W : World} {g : Nat} {xs : List Int} (h : IsD w0 W g xs) (k : Nat) : W.frozen? ⟨g, k, none⟩ = false := blk_frozen h.1 k
theorem IsD.below {w0 W W' : World} {g : Nat} {xs : List Int} (h : IsD w0 W g xs) (hb : Below W.heap.size W W') : IsD w0 W' g xs := ⟨blk_below h.1 hb, h.2⟩
theorem IsD.drew {w0 W : World} {g : Nat} {xs : List Int} (h : IsD w0 W g xs) (n : Nat) : IsD w0 (W.drewN n) g xs := h
theorem IsD.keep {w0 W W' : World} {g k : Nat} {xs : List Int} (h : IsD w0 W g xs) (hk : KeepBut W W' k none) (hn : g ≠ k) : IsD w0 W' g xs := ⟨hk.blk h.1 hn (by simp), h.2⟩
theorem IsD.lt {w0 W : World} {g : Nat} {xs : List Int} (h : IsD w0 W g xs) : g < W.heap.size := blk_lt h.1
theorem IsD.ge {w0 w : World} {g : Nat} {xs : List Int} (h : IsD w0 w g xs) : w0.heap.size ≤ g := h.2.2
theorem IsD.put {w0 W : World} {g : Nat} {xs : List Int} (h : IsD w0 W g xs) (k : Nat) (v : Int) : IsD w0 (W.setCell ⟨g, k, none⟩ (.int .u64 v)) g (xs.set k v) := by
  refine ⟨(blk_set h.1 k _).trans ?_, by rw [List.length_set]; exact h.2.1, h.2.2⟩
  simp [nums, List.map_set]
attribute [local go_sem] max2_int min2_int max_two min_two max_three min_three max_four min_four
set_option maxHeartbeats 4000000 in
set_option maxRecDepth 100000 in
theorem dadd_c (g : Nat) (xs : List Int) (A : Option Addr) (cp : Nat) (l : List Int) (w0 w : World) (hI : IsD w0 w g xs) (hB : Below w0.heap.size w0 w) (hx : Cnt xs) (hr : RowI w A l) (hn : 0 < l.length → ∀ a, A = some a → a.block ≠ g) (hc : l.length ≤ cp) (hm : l.length ≤ 1000000) (hw : ∀ x ∈ l, x ≤ 9223372036854775807) :
    Calls Try.prog 16 #[.pointer (some ⟨g, 0, none⟩), .slice A l.length cp] w fun e w' => e = .returned (.int .i64 (addV xs l).2) ∧ IsD w0 w' g (addV xs l).1 ∧ Below w0.heap.size w0 w' ∧ KeepBut w w' g none := by
  have HI := Aside0.mk hI
  have HB := Aside0.mk hB
  have HR := Aside0.mk hr
  have HN := Aside0.mk hn
  have HX := Aside0.mk hx
  have HW := Aside0.mk hw
  have HK := Aside0.mk (KeepBut.refl w g none)
  clear hI hB hr hn hx hw
  go_enter Try.func16, Try.ntmps16
  go_wp2_with fail
  go_loopw [5, 6] (fun vm vi wr => ∃ i : Nat, vi = .int .i64 i ∧ vm = .int .i64 (addV xs (l.take i)).2 ∧ Aside0 (i ≤ l.length) ∧ Aside0 (IsD w0 wr g (addV xs (l.take i)).1) ∧ Aside0 (Below w0.heap.size w0 wr) ∧ Aside0 (KeepBut w wr g none)) (fun _ vi _ => (l.length - intOf vi).toNat)
  case atStart => exact ⟨0, rfl, rfl, ⟨Nat.zero_le _⟩, HI, HB, HK⟩
  case round =>
    clear HI HB HK
    obtain ⟨i, rfl, rfl, HL, HI, HB, HK⟩ := hrel
    have l1 := HL.out
    by_cases hlt : i < l.length
    · obtain ⟨x, hx⟩ : ∃ x, l[i]? = some x := ⟨_, List.getElem?_eq_getElem hlt⟩
      obtain ⟨a, rfl, h0⟩ := HR.out i x hx
      have k0 := KeepBut.cell HK.out h0 (by rw [add_block]; exact HN.out (by omega) a rfl)
      have hxw := HW.out x (List.mem_of_getElem? hx)
      have EX := Aside0.mk (addV_take (xs := xs) hx)
      obtain ⟨p, hp⟩ : ∃ p, addV xs (l.take i) = p := ⟨_, rfl⟩
      have inv := addV_inv xs HX.out (l.take i)
      rw [hp] at inv
      have hlen : (l.take i).length = i := by rw [List.length_take]; omega
      rw [hlen] at inv
      obtain ⟨i1, i2, i3, i4⟩ := inv
      have EX2 := Aside0.mk (show addV xs (l.take (i + 1)) = addS p x by rw [EX.out, hp])
      have HI2 := Aside0.mk (show IsD w0 wr g p.1 by rw [← hp]; exact HI.out)
      clear HI EX hx h0
      rw [hp]
      clear hp hlen
      have bb := boxV_bd hxw
      have BX := Aside0.mk (rbox_q x hxw)
      obtain ⟨b, hb⟩ : ∃ b, boxV x = b := ⟨_, rfl⟩
      have HBX := Aside0.mk hb
      rw [hb] at bb BX
      clear hb
      obtain ⟨q, rfl⟩ := Int.eq_ofNat_of_zero_le bb.1
      have hq : q < 305 := by omega
      have hcell := HI2.out.read hq
      have hfree := HI2.out.free q
      have cq := i1.get q
      obtain ⟨v, hv⟩ : ∃ v, p.1.getD q 0 = v := ⟨_, rfl⟩
      rw [hv] at hcell cq
      have HV := Aside0.mk hv
      clear hv i1 i4
      by_cases hlt2 : v < 4294967295
      · have E3 := Aside0.mk (show addS p x = (p.1.set q (v + 1), p.2 + 1) by unfold addS; rw [HBX.out, Int.toNat_natCast, HV.out, if_pos hlt2])
        go_wp2_with (go_at_call 11; (with_reducible refine (BX.out _).mono ?_); rintro e w9 ⟨rfl, hd⟩; have n0_ := Aside0.mk (HI2.out.below hd.below); have n1_ := Aside0.mk (below_step HB.out hd.below); have n2_ := Aside0.mk (KeepBut.trans HK.out (KeepBut.of_below hd.below g none) (.inl rfl)); clear HI2 HB HK hd k0 hcell hfree; have HI2 := n0_; have HB := n1_; have HK := n2_; clear n0_ n1_ n2_; have hcell := HI2.out.read hq; rw [HV.out] at hcell; have hfree := HI2.out.free q)
        go_region
        go_wp2_with fail
        go_roundw
        case rel => exact ⟨i + 1, by go_num, by rw [EX2.out, E3.out], ⟨by omega⟩, ⟨by rw [EX2.out, E3.out]; exact (HI2.out.drew _).put q (v + 1)⟩, ⟨below_set (pw_below_drewN HB.out _) HI2.out.2.2⟩, ⟨KeepBut.set_ (keep_drewN HK.out _) _ _⟩⟩
        case measure => simp [intOf]; omega
      · have E3 := Aside0.mk (show addS p x = p by unfold addS; rw [HBX.out, Int.toNat_natCast, HV.out, if_neg hlt2])
        go_wp2_with (go_at_call 11; (with_reducible refine (BX.out _).mono ?_); rintro e w9 ⟨rfl, hd⟩; have n0_ := Aside0.mk (HI2.out.below hd.below); have n1_ := Aside0.mk (below_step HB.out hd.below); have n2_ := Aside0.mk (KeepBut.trans HK.out (KeepBut.of_below hd.below g none) (.inl rfl)); clear HI2 HB HK hd k0 hcell hfree; have HI2 := n0_; have HB := n1_; have HK := n2_; clear n0_ n1_ n2_; have hcell := HI2.out.read hq; rw [HV.out] at hcell; have hfree := HI2.out.free q)
        go_roundw
        case rel => exact ⟨i + 1, by go_num, by rw [EX2.out, E3.out], ⟨by omega⟩, ⟨by rw [EX2.out, E3.out]; exact HI2.out⟩, ⟨HB.out⟩, ⟨HK.out⟩⟩
        case measure => simp [intOf]; omega
    · have e : l.take i = l := List.take_of_length_le (by omega)
      rw [e] at HI ⊢
      go_wp2_with fail
      go_ret
      exact ⟨rfl, HI.out, HB.out, HK.out⟩
end Go.Proofs.Ytmhhklmfnhgbbaa.Hst
