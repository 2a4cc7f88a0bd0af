-- written by myprint.py, a program of this session, over the kit's print.py
import Derived.Test.YtbfmbjkalldonaaPAx0
namespace Go.Proofs.Ytbfmbjkalldonaa.PA
open Go.RowKit Go.Proofs.YtbfmbjkalldonaaW.PrintWords Go.Proofs.YtbfmbjkalldonaaW.PrintLast Go.Proofs.YtbfmbjkalldonaaW.PrintMore
attribute [local go_sem] max2_int min2_int max_two min_two max_three min_three max_four min_four   -- for this text's walks alone
set_option linter.unusedVariables false
set_option linter.unusedSimpArgs false

/-- A state of type 101 at block g of W; what its slices lead to came in by w0. -/
def IsS101 (w0 W : World) (g : Nat) (f0 : Int) : Prop := W.heap[g]? = some (.cells #[.int .u32 f0] 101 (0, 0)) ∧ w0.heap.size ≤ g
theorem IsS101.grown {w0 W : World} {g : Nat} {f0 : Int} {W1 : World} {row : Option Nat} (h : IsS101 w0 W g f0) (hw : W.grownBy W1 row) (hne : some g ≠ row) : IsS101 w0 W1 g f0 := by
  obtain ⟨hb, hg⟩ := h
  exact ⟨blk_grown hb hw hne, hg⟩
theorem IsS101.own_neN {w0 W : World} {g : Nat} {f0 : Int} {α : Type} {d : Kd α} {e : Nat} {base : Nat} {ok : Nat → Prop} {v : Value} {xs : List α} (h : IsS101 w0 W g f0) (ho : Kd.N d e W base ok v xs) (ht : e ≠ 101) : some g ≠ v.ownBlock := by
  obtain ⟨hb, hg⟩ := h
  exact Kd.N_ne ho hb ht
theorem IsS101.fresh {w0 W : World} {g : Nat} {f0 : Int} (h : IsS101 w0 W g f0) : ∀ k, W.heap.size ≤ k → k ≠ g := by
  obtain ⟨hb, hg⟩ := h
  exact Kd.freshB hb
theorem IsS101.kept {w0 W : World} {g : Nat} {f0 : Int} {W1 : World} {S : Nat → Prop} (h : IsS101 w0 W g f0) (hk : Kept W W1 S) (hne : ¬ S g) : IsS101 w0 W1 g f0 := by
  obtain ⟨hb, hg⟩ := h
  exact ⟨blk_kept hb hk hne, hg⟩
theorem IsS101.below {w0 W : World} {g : Nat} {f0 : Int} {W1 : World} (h : IsS101 w0 W g f0) (hw : Below W.heap.size W W1) : IsS101 w0 W1 g f0 := h.grown (grown_of_below hw none) (by simp)
theorem IsS101.alloc {w0 W : World} {g : Nat} {f0 : Int} (h : IsS101 w0 W g f0) (o : Obj) : IsS101 w0 (W.alloc o) g f0 := h.below (below_alloc (Below.refl _ _) o)
theorem IsS101.drewN {w0 W : World} {g : Nat} {f0 : Int} (h : IsS101 w0 W g f0) (m : Nat) : IsS101 w0 (W.drewN m) g f0 := h
theorem IsS101.drew {w0 W : World} {g : Nat} {f0 : Int} (h : IsS101 w0 W g f0) : IsS101 w0 W.drew g f0 := h
theorem IsS101.at_ {w0 W : World} {g : Nat} {f0 : Int} {w' : World} {m : Nat} (hq : W.drewN m = w') (h : IsS101 w0 W g f0) : IsS101 w0 w' g f0 := by subst hq; exact IsS101.drewN h m
theorem IsS101.apart {w0 W : World} {g : Nat} {f0 : Int} {α : Type} {d : Kd α} {e : Nat} {base : Nat} {ok : Nat → Prop} {v : Value} {xs : List α} (h : IsS101 w0 W g f0) (ho : d.R e W base ok v xs) (ht : ∀ q, q ∈ e :: d.E → q ≠ 101) : d.R e W base (fun k => ok k ∧ k ≠ g) v xs := by
  obtain ⟨hb, hg⟩ := h
  exact Kd.R_types ho hb ht
theorem IsS101.own_ne {w0 W : World} {g : Nat} {f0 : Int} {α : Type} {d : Kd α} {e : Nat} {base : Nat} {ok : Nat → Prop} {v : Value} {xs : List α} (h : IsS101 w0 W g f0) (ho : d.R e W base ok v xs) (ht : e ≠ 101) : some g ≠ v.ownBlock := by
  obtain ⟨hb, hg⟩ := h
  exact Kd.R_ne ho hb ht
theorem IsS101.apartQ {w0 W : World} {g : Nat} {f0 : Int} {α : Type} {d : Kd α} {e : Nat} {base : Nat} {ok : Nat → Prop} {v : Value} {xs : List α} (h : IsS101 w0 W g f0) (ho : d.Q e W base ok v xs) (ht : ∀ q, q ∈ e :: d.E → q ≠ 101) : d.Q e W base (fun k => ok k ∧ k ≠ g) v xs := by
  obtain ⟨hb, hg⟩ := h
  exact Kd.Q_types ho hb ht
theorem IsS101.own_neQ {w0 W : World} {g : Nat} {f0 : Int} {α : Type} {d : Kd α} {e : Nat} {base : Nat} {ok : Nat → Prop} {v : Value} {xs : List α} (h : IsS101 w0 W g f0) (ho : d.Q e W base ok v xs) (ht : e ≠ 101) : some g ≠ v.ownBlock := by
  obtain ⟨hb, hg⟩ := h
  exact Kd.Q_ne ho hb ht
theorem IsS101.apartS {w0 W : World} {g : Nat} {f0 : Int} {α : Type} {d : Kd α} {e : Nat} {base : Nat} {ok : Nat → Prop} {v : Value} {xs : List α} (h : IsS101 w0 W g f0) (ho : d.S e W base ok v xs) (ht : ∀ q, q ∈ e :: d.E → q ≠ 101) : d.S e W base (fun k => ok k ∧ k ≠ g) v xs := by
  obtain ⟨hb, hg⟩ := h
  exact Kd.S_types ho hb ht
theorem IsS101.own_neS {w0 W : World} {g : Nat} {f0 : Int} {α : Type} {d : Kd α} {e : Nat} {base : Nat} {ok : Nat → Prop} {v : Value} {xs : List α} (h : IsS101 w0 W g f0) (ho : d.S e W base ok v xs) (ht : e ≠ 101) : some g ≠ v.ownBlock := by
  obtain ⟨hb, hg⟩ := h
  exact Kd.S_ne ho hb ht
theorem IsS101.lt {w0 W : World} {g : Nat} {f0 : Int} (h : IsS101 w0 W g f0) : g < W.heap.size := by
  obtain ⟨hb, hg⟩ := h
  exact blk_lt hb
theorem IsS101.ge {w0 W : World} {g : Nat} {f0 : Int} (h : IsS101 w0 W g f0) : w0.heap.size ≤ g := by
  obtain ⟨hb, hg⟩ := h
  exact hg
theorem IsS101.ne_blk {w0 W : World} {g : Nat} {f0 : Int} {a : Nat} {cs : Array Value} {t : TypeId} {fr : Nat × Nat} (h : IsS101 w0 W g f0) (hb2 : W.heap[a]? = some (.cells cs t fr)) (ht : t ≠ 101) : g ≠ a := by
  obtain ⟨hb, hg⟩ := h
  rintro rfl
  rw [hb] at hb2
  injection hb2 with hb2
  injection hb2 with _ ht2
  exact ht ht2.symm
theorem IsS101.far {w0 W : World} {g : Nat} {f0 : Int} {p : Addr} (h : IsS101 w0 W g f0) (hne : g ≠ p.block) (u : Value) : IsS101 w0 (W.setCell p u) g f0 := by
  obtain ⟨hb, hg⟩ := h
  exact ⟨blk_far hb hne u, hg⟩
theorem cellS101_0 {W : World} {g : Nat} {f0 : Int} (h : W.heap[g]? = some (.cells #[.int .u32 f0] 101 (0, 0))) : W.cell? ⟨g, 0, none⟩ = some (.int .u32 f0) := (blk_cell h 0).trans rfl
theorem IsS101.set_0 {w0 W : World} {g : Nat} {f0 : Int} (h : IsS101 w0 W g f0) (x : Int) : IsS101 w0 (W.setCell ⟨g, 0, none⟩ (.int .u32 x)) g x := by
  obtain ⟨hb, hg⟩ := h
  exact ⟨by simpa using blk_set hb 0 (.int .u32 x), hg⟩
theorem IsS101.new (w0 W : World) (f0 : Int) (hB : Below w0.heap.size w0 W) : IsS101 w0 (W.alloc (.cells #[.int .u32 f0] 101)) W.heap.size f0 := ⟨by simpa using heap_alloc_new W _, hB.size⟩

/-! ### crc_State_Add: function 69 -/
def nibs : List Int := [0, 498536548, 997073096, 651767980, 1994146192, 1802195444, 1303535960, 1342533948, 3988292384, 4027552580, 3604390888, 3412177804, 2607071920, 2262029012, 2685067896, 3183342108]
def nibsV : Array Value := (nibs.map (Value.int .u32)).toArray
set_option maxHeartbeats 8000000 in
set_option maxRecDepth 100000 in
theorem nibbles_calls (w : World) : Calls Try.prog 71 #[] w fun e w' => e = .returned (.agg #[.int .u32 0, .int .u32 498536548, .int .u32 997073096, .int .u32 651767980, .int .u32 1994146192, .int .u32 1802195444, .int .u32 1303535960, .int .u32 1342533948, .int .u32 3988292384, .int .u32 4027552580, .int .u32 3604390888, .int .u32 3412177804, .int .u32 2607071920, .int .u32 2262029012, .int .u32 2685067896, .int .u32 3183342108]) ∧ Below w.heap.size w w' := by
  go_enter Try.func71, Try.ntmps71
  go_wp2
  exact bodyPost_ret (v := .agg #[.int .u32 0, .int .u32 498536548, .int .u32 997073096, .int .u32 651767980, .int .u32 1994146192, .int .u32 1802195444, .int .u32 1303535960, .int .u32 1342533948, .int .u32 3988292384, .int .u32 4027552580, .int .u32 3604390888, .int .u32 3412177804, .int .u32 2607071920, .int .u32 2262029012, .int .u32 2685067896, .int .u32 3183342108]) (by simp [results, Try.results71, go_sem]) rfl ⟨rfl, (Below.refl _ _).alloc (Nat.le_refl _) _⟩

def nib (n : Int) : Int := bits .xor .u32 (n / 16) (rd nibs (bits .and .u32 n 15))
def crcStep (n c : Int) : Int := nib (nib (bits .xor .u32 n (c % 4294967296)))
def crcAdd (n : Int) (l : List Int) : Int := bits .xor .u32 IntKind.u32.max (l.foldl crcStep (bits .xor .u32 IntKind.u32.max n))
theorem and15_bd (n : Int) : 0 ≤ bits .and .u32 n 15 ∧ bits .and .u32 n 15 < 16 := by
  have h2 : (BitVec.ofInt 32 (15 : Int)).toNat = 15 := by decide
  have h : bits .and .u32 n 15 = IntKind.u32.wrap ((BitVec.ofInt 32 n &&& BitVec.ofInt 32 15).toNat : Int) := rfl
  have h3 : (BitVec.ofInt 32 n &&& BitVec.ofInt 32 15).toNat < 16 := by
    rw [BitVec.toNat_and, h2]; exact Nat.lt_of_le_of_lt Nat.and_le_right (by decide)
  rw [h, IntKind.wrap_u32]; omega
theorem nibs_get (W : World) (g : Nat) (h : W.heap[g]? = some (.cells #[.int .u32 0, .int .u32 498536548, .int .u32 997073096, .int .u32 651767980, .int .u32 1994146192, .int .u32 1802195444, .int .u32 1303535960, .int .u32 1342533948, .int .u32 3988292384, .int .u32 4027552580, .int .u32 3604390888, .int .u32 3412177804, .int .u32 2607071920, .int .u32 2262029012, .int .u32 2685067896, .int .u32 3183342108] 105 (0, 0))) (i : Int) (h0 : 0 ≤ i) (h1 : i < 16) : W.cell? ⟨g, i.toNat, none⟩ = some (.int .u32 (rd nibs i)) := by
  obtain ⟨j, rfl⟩ := Int.eq_ofNat_of_zero_le h0
  have hj : j < 16 := by omega
  have := blk_cell h j
  rw [Int.toNat_natCast, this]
  obtain rfl | rfl | rfl | rfl | rfl | rfl | rfl | rfl | rfl | rfl | rfl | rfl | rfl | rfl | rfl | rfl : j = 0 ∨ j = 1 ∨ j = 2 ∨ j = 3 ∨ j = 4 ∨ j = 5 ∨ j = 6 ∨ j = 7 ∨ j = 8 ∨ j = 9 ∨ j = 10 ∨ j = 11 ∨ j = 12 ∨ j = 13 ∨ j = 14 ∨ j = 15 := by omega
  all_goals rfl
def crc_State_Add.f (a0_0 : Int) (l1 : List Int) : Option (Int) := some (crcAdd a0_0 l1)
set_option maxHeartbeats 8000000 in
set_option maxRecDepth 100000 in
theorem crc_State_Add.calls (a0_0 : Int) (A1 : Option Addr) (c1 : Nat) (l1 : List Int) (r : Int) (w : World) (hr1 : Kd.C (Kd.int .u8) w A1 l1.length l1) (hc1 : l1.length ≤ c1) (h : crc_State_Add.f a0_0 l1 = some r) :
    Calls Try.prog 69 #[.agg #[.int .u32 a0_0], .slice A1 l1.length c1] w fun e w' => e = .returned (.agg #[.int .u32 r]) ∧ Below w.heap.size w w' := by
  have HR1 := Aside0.mk hr1
  have hm := Aside0.mk (Kd.C_max hr1)
  clear hr1 hc1
  obtain rfl := Option.some.inj h
  clear h
  have hsg : IntKind.u32.signed = false := rfl
  go_enter Try.func69, Try.ntmps69
  go_wp2_with (go_at_call 71; (with_reducible refine (nibbles_calls _).mono ?_); rintro e w1 ⟨rfl, hb⟩; have HBN := Aside0.mk hb; have c0 := (blk_cell (blk_below (blk_alloc (blk_new w (.cells #[.int .u32 a0_0] 101)) (.cells #[.int .u32 0] 101)) hb) 0).trans rfl; have hz : w.heap.size < w1.heap.size := (by have := hb.size; simp at this; omega); have hz2 : w.heap.size + 1 < w1.heap.size := (by have := hb.size; simp at this; omega); clear hb)
  obtain ⟨W, hW⟩ : ∃ W, W = w1.alloc (.cells #[.int .u32 0, .int .u32 498536548, .int .u32 997073096, .int .u32 651767980, .int .u32 1994146192, .int .u32 1802195444, .int .u32 1303535960, .int .u32 1342533948, .int .u32 3988292384, .int .u32 4027552580, .int .u32 3604390888, .int .u32 3412177804, .int .u32 2607071920, .int .u32 2262029012, .int .u32 2685067896, .int .u32 3183342108] 105) := ⟨_, rfl⟩
  rw [← hW]
  have hBT := Aside0.mk (show W.heap[w1.heap.size]? = some (.cells #[.int .u32 0, .int .u32 498536548, .int .u32 997073096, .int .u32 651767980, .int .u32 1994146192, .int .u32 1802195444, .int .u32 1303535960, .int .u32 1342533948, .int .u32 3988292384, .int .u32 4027552580, .int .u32 3604390888, .int .u32 3412177804, .int .u32 2607071920, .int .u32 2262029012, .int .u32 2685067896, .int .u32 3183342108] 105 (0, 0)) by rw [hW]; exact blk_new _ _)
  have hBR := Aside0.mk (show W.heap[w.heap.size + 1]? = some (.cells #[.int .u32 0] 101 (0, 0)) by
    rw [hW]; refine blk_alloc (blk_below ?_ HBN.out) _
    have := blk_new (w.alloc (.cells #[.int .u32 a0_0] 101)) (.cells #[.int .u32 0] 101)
    simpa using this)
  have HBW := Aside0.mk (show Below w.heap.size w W by
    rw [hW]; exact below_alloc (below_step (below_alloc (below_alloc (Below.refl _ _) _) _) HBN.out) _)
  clear hW c0
  go_loop [6, 15] (fun v6 v15 => ∃ k : Nat, k ≤ l1.length ∧ v15 = .int .i64 k ∧ v6 = .int .u32 ((l1.take k).foldl crcStep (bits .xor .u32 IntKind.u32.max a0_0))) (fun _ v15 => l1.length - (intOf v15).toNat)
  case atStart => exact ⟨0, Nat.zero_le _, rfl, rfl⟩
  case round =>
    obtain ⟨k, hk, rfl, rfl⟩ := hrel
    by_cases hlt : k < l1.length
    · obtain ⟨N, hN⟩ : ∃ N, N = (l1.take k).foldl crcStep (bits .xor .u32 IntKind.u32.max a0_0) := ⟨_, rfl⟩
      rw [← hN]
      have HN := Aside0.mk hN
      clear hN
      obtain ⟨ad, e, hx⟩ := Kd.at_int (Kd.C_below HR1.out HBW.out) (k : Int) (by omega) (by omega)
      cases e
      rw [Int.toNat_natCast] at hx
      have hk0 : (0 : Int) ≤ k := by omega
      have hk1 : (k : Int) < l1.length := by omega
      have HX := Aside0.mk (show (l1.take (k + 1)).foldl crcStep (bits .xor .u32 IntKind.u32.max a0_0) = crcStep N (rd l1 k) by
        rw [List.take_succ_eq_append_getElem hlt, List.foldl_append, ← HN.out]
        simp [rd, List.getElem?_eq_getElem hlt])
      generalize rd l1 (k : Int) = C at hx HX
      obtain ⟨n1, hn1⟩ : ∃ n1, n1 = bits .xor .u32 N (C % 4294967296) := ⟨_, rfl⟩
      have i1 := and15_bd (bits .xor .u32 N (C % 4294967296))
      have i2 := and15_bd (nib (bits .xor .u32 N (C % 4294967296)))
      have e1 := nibs_get W _ hBT.out _ i1.1 i1.2
      have e2 := nibs_get W _ hBT.out _ i2.1 i2.2
      obtain ⟨i10, i11⟩ := i1
      have hmm := hm.out
      obtain ⟨i20, i21⟩ := i2
      unfold nib at i20 i21 e2
      go_wp2
      go_round
      case rel => exact ⟨k + 1, by omega, by go_num, by rw [HX.out]; rfl⟩
      case measure => simp [intOf]; omega
    · have cBR := (blk_cell hBR.out 0).trans rfl
      have fBR := blk_frozen hBR.out 0
      go_wp2
      have hk' : k = l1.length := by omega
      refine bodyPost_ret (results_cell_row rfl _ _ (w.heap.size + 1) 101 #[.int .u32 (bits .xor .u32 IntKind.u32.max ((l1.take k).foldl crcStep (bits .xor .u32 IntKind.u32.max a0_0)))] (0, 0) _ rfl (blk_put hBR.out 0 _ rfl) Try.underlying101 rfl (by kernel_rfl)) rfl ?_
      refine ⟨?_, below_set HBW.out (by omega)⟩
      rw [hk', List.take_length]
      rfl

end Go.Proofs.Ytbfmbjkalldonaa.PA
