/- msg's isBare; no condition but those that stand in each. -/
import Derived.Test.YtbfmbjkalldonaaMsM
import Derived.Test.YtbfmbjkalldonaaPAx5
import Derived.Test.YtbfmbjkalldonaaProg
import Derived.Test.YtbfmbjkalldonaaLst2
import Derived.Test.YtbfmbjkalldonaaMsV
import Derived.Test.YtbfmbjkalldonaaPAx1
import Derived.Deep.QuietTactic
import Derived.BigQuiet
import Derived.BigRegion
import Derived.RegionTactic
import Derived.Deep.RegionHeld3
import Derived.Deep.RegionLaw
import Derived.WalkSpells
import Derived.LoopTactic
import Derived.Deep.LoopGhost
import Derived.Shelf.Abstract
import Derived.OwnWalk
namespace Go.Proofs.Ytbfmbjkalldonaa.Msg
set_option linter.unusedVariables false
set_option linter.unusedSimpArgs false
open Go.RowKit Go.Proofs.Ytbfmbjkalldonaa.PA Go.Proofs.YtbfmbjkalldonaaW.PrintWords Go.Proofs.YtbfmbjkalldonaaW.PrintLast Go.Proofs.YtbfmbjkalldonaaW.PrintMore Go.Proofs.Ytbfmbjkalldonaa.Base Go.Proofs.Ytbfmbjkalldonaa.Var Go.Proofs.Ytbfmbjkalldonaa.Lst
attribute [local go_sem] max2_int min2_int max_two min_two max_three min_three max_four min_four
def getV (m : Ms) (c : Int) : Int := if c = 115 then m.s else if c = 101 then m.se else if c = 97 then m.a else if c = 105 then m.i else if c = 110 then m.n else m.c
def bareV (m : Ms) (c : Int) : Bool := if c = 119 then m.why == 0 else if c = 106 then (m.seed == 0 && m.most == 0 && ((m.P.length : Int) == 0)) else if c = 108 then ((m.L.length : Int) == 0) else getV m c == 0
set_option maxRecDepth 100000
theorem bare_115 (w : World) (g : Nat) (m : Ms) (A B : Option Addr) (c d : Nat) (hg : w.heap[g]? = some (.cells (mcells m (.slice A m.P.length c) (.slice B m.L.length d)) 29 (0, 0))) : Calls Try.prog 33 #[.pointer (some ⟨g, 0, none⟩), .int .u8 115] w fun er w' => er = .returned (.bool (bareV m 115)) ∧ w = w' := by
  have hu := Try.underlying29
  have HP := Aside0.mk (show Calls Try.prog 27 #[.pointer (some ⟨g, 0, none⟩), .int .u8 115] w fun er w' => er = .returned (.pointer (some ⟨g, 1, none⟩)) ∧ w = w' from place_c w g 115 (.inl rfl))
  have k0 : w.cell? ⟨g, 1, none⟩ = some (.int .u64 m.s) := blk_cell hg 1
  clear hg
  go_enter Try.func33, Try.ntmps33
  go_wp2_with (first | (go_at_call 27; (with_reducible refine HP.out.mono ?_); rintro er w7 ⟨rfl, rfl⟩))
  go_ret
  exact ⟨rfl, rfl⟩
theorem bare_101 (w : World) (g : Nat) (m : Ms) (A B : Option Addr) (c d : Nat) (hg : w.heap[g]? = some (.cells (mcells m (.slice A m.P.length c) (.slice B m.L.length d)) 29 (0, 0))) : Calls Try.prog 33 #[.pointer (some ⟨g, 0, none⟩), .int .u8 101] w fun er w' => er = .returned (.bool (bareV m 101)) ∧ w = w' := by
  have hu := Try.underlying29
  have HP := Aside0.mk (show Calls Try.prog 27 #[.pointer (some ⟨g, 0, none⟩), .int .u8 101] w fun er w' => er = .returned (.pointer (some ⟨g, 2, none⟩)) ∧ w = w' from place_c w g 101 (.inr (.inl rfl)))
  have k0 : w.cell? ⟨g, 2, none⟩ = some (.int .u64 m.se) := blk_cell hg 2
  clear hg
  go_enter Try.func33, Try.ntmps33
  go_wp2_with (first | (go_at_call 27; (with_reducible refine HP.out.mono ?_); rintro er w7 ⟨rfl, rfl⟩))
  go_ret
  exact ⟨rfl, rfl⟩
theorem bare_97 (w : World) (g : Nat) (m : Ms) (A B : Option Addr) (c d : Nat) (hg : w.heap[g]? = some (.cells (mcells m (.slice A m.P.length c) (.slice B m.L.length d)) 29 (0, 0))) : Calls Try.prog 33 #[.pointer (some ⟨g, 0, none⟩), .int .u8 97] w fun er w' => er = .returned (.bool (bareV m 97)) ∧ w = w' := by
  have hu := Try.underlying29
  have HP := Aside0.mk (show Calls Try.prog 27 #[.pointer (some ⟨g, 0, none⟩), .int .u8 97] w fun er w' => er = .returned (.pointer (some ⟨g, 3, none⟩)) ∧ w = w' from place_c w g 97 (.inr (.inr (.inl rfl))))
  have k0 : w.cell? ⟨g, 3, none⟩ = some (.int .u64 m.a) := blk_cell hg 3
  clear hg
  go_enter Try.func33, Try.ntmps33
  go_wp2_with (first | (go_at_call 27; (with_reducible refine HP.out.mono ?_); rintro er w7 ⟨rfl, rfl⟩))
  go_ret
  exact ⟨rfl, rfl⟩
theorem bare_105 (w : World) (g : Nat) (m : Ms) (A B : Option Addr) (c d : Nat) (hg : w.heap[g]? = some (.cells (mcells m (.slice A m.P.length c) (.slice B m.L.length d)) 29 (0, 0))) : Calls Try.prog 33 #[.pointer (some ⟨g, 0, none⟩), .int .u8 105] w fun er w' => er = .returned (.bool (bareV m 105)) ∧ w = w' := by
  have hu := Try.underlying29
  have HP := Aside0.mk (show Calls Try.prog 27 #[.pointer (some ⟨g, 0, none⟩), .int .u8 105] w fun er w' => er = .returned (.pointer (some ⟨g, 4, none⟩)) ∧ w = w' from place_c w g 105 (.inr (.inr (.inr (.inl rfl)))))
  have k0 : w.cell? ⟨g, 4, none⟩ = some (.int .u64 m.i) := blk_cell hg 4
  clear hg
  go_enter Try.func33, Try.ntmps33
  go_wp2_with (first | (go_at_call 27; (with_reducible refine HP.out.mono ?_); rintro er w7 ⟨rfl, rfl⟩))
  go_ret
  exact ⟨rfl, rfl⟩
theorem bare_110 (w : World) (g : Nat) (m : Ms) (A B : Option Addr) (c d : Nat) (hg : w.heap[g]? = some (.cells (mcells m (.slice A m.P.length c) (.slice B m.L.length d)) 29 (0, 0))) : Calls Try.prog 33 #[.pointer (some ⟨g, 0, none⟩), .int .u8 110] w fun er w' => er = .returned (.bool (bareV m 110)) ∧ w = w' := by
  have hu := Try.underlying29
  have HP := Aside0.mk (show Calls Try.prog 27 #[.pointer (some ⟨g, 0, none⟩), .int .u8 110] w fun er w' => er = .returned (.pointer (some ⟨g, 5, none⟩)) ∧ w = w' from place_c w g 110 (.inr (.inr (.inr (.inr (.inl rfl))))))
  have k0 : w.cell? ⟨g, 5, none⟩ = some (.int .u64 m.n) := blk_cell hg 5
  clear hg
  go_enter Try.func33, Try.ntmps33
  go_wp2_with (first | (go_at_call 27; (with_reducible refine HP.out.mono ?_); rintro er w7 ⟨rfl, rfl⟩))
  go_ret
  exact ⟨rfl, rfl⟩
theorem bare_99 (w : World) (g : Nat) (m : Ms) (A B : Option Addr) (c d : Nat) (hg : w.heap[g]? = some (.cells (mcells m (.slice A m.P.length c) (.slice B m.L.length d)) 29 (0, 0))) : Calls Try.prog 33 #[.pointer (some ⟨g, 0, none⟩), .int .u8 99] w fun er w' => er = .returned (.bool (bareV m 99)) ∧ w = w' := by
  have hu := Try.underlying29
  have HP := Aside0.mk (show Calls Try.prog 27 #[.pointer (some ⟨g, 0, none⟩), .int .u8 99] w fun er w' => er = .returned (.pointer (some ⟨g, 6, none⟩)) ∧ w = w' from place_c w g 99 (.inr (.inr (.inr (.inr (.inr rfl))))))
  have k0 : w.cell? ⟨g, 6, none⟩ = some (.int .u64 m.c) := blk_cell hg 6
  clear hg
  go_enter Try.func33, Try.ntmps33
  go_wp2_with (first | (go_at_call 27; (with_reducible refine HP.out.mono ?_); rintro er w7 ⟨rfl, rfl⟩))
  go_ret
  exact ⟨rfl, rfl⟩
theorem bare_119 (w : World) (g : Nat) (m : Ms) (A B : Option Addr) (c d : Nat) (hg : w.heap[g]? = some (.cells (mcells m (.slice A m.P.length c) (.slice B m.L.length d)) 29 (0, 0))) : Calls Try.prog 33 #[.pointer (some ⟨g, 0, none⟩), .int .u8 119] w fun er w' => er = .returned (.bool (bareV m 119)) ∧ w = w' := by
  have hu := Try.underlying29
  have k0 : w.cell? ⟨g, 7, none⟩ = some (.int .i64 m.why) := blk_cell hg 7
  clear hg
  go_enter Try.func33, Try.ntmps33
  go_wp2_with fail
  go_ret
  exact ⟨rfl, rfl⟩
theorem bare_108 (w : World) (g : Nat) (m : Ms) (A B : Option Addr) (c d : Nat) (hg : w.heap[g]? = some (.cells (mcells m (.slice A m.P.length c) (.slice B m.L.length d)) 29 (0, 0))) : Calls Try.prog 33 #[.pointer (some ⟨g, 0, none⟩), .int .u8 108] w fun er w' => er = .returned (.bool (bareV m 108)) ∧ w = w' := by
  have hu := Try.underlying29
  have k0 : w.cell? ⟨g, 11, none⟩ = some (.slice B m.L.length d) := blk_cell hg 11
  clear hg
  go_enter Try.func33, Try.ntmps33
  go_wp2_with fail
  go_ret
  exact ⟨rfl, rfl⟩
theorem bare_106 (w : World) (g : Nat) (m : Ms) (A B : Option Addr) (c d : Nat) (hg : w.heap[g]? = some (.cells (mcells m (.slice A m.P.length c) (.slice B m.L.length d)) 29 (0, 0))) : Calls Try.prog 33 #[.pointer (some ⟨g, 0, none⟩), .int .u8 106] w fun er w' => er = .returned (.bool (bareV m 106)) ∧ w = w' := by
  have hu := Try.underlying29
  have hu27 := Try.underlying27
  have k0 : w.cell? ⟨g, 8, none⟩ = some (.int .u64 m.seed) := blk_cell hg 8
  have k1 : w.cell? ⟨g, 10, none⟩ = some (.int .i64 m.most) := blk_cell hg 10
  have k2 : w.cell? ⟨g, 9, none⟩ = some (.slice A m.P.length c) := blk_cell hg 9
  clear hg
  by_cases h1 : m.seed = 0
  · by_cases h2 : m.most = 0
    · have f1 : (m.seed == 0) = true := by simpa using h1
      have f2 : (m.most == 0) = true := by simpa using h2
      rw [show bareV m 106 = ((m.P.length : Int) == 0) from by show (m.seed == 0 && m.most == 0 && ((m.P.length : Int) == 0)) = _; rw [f1, f2]; rfl]
      clear h1 h2
      go_enter Try.func33, Try.ntmps33
      go_wp2_with fail
      go_ret
      exact ⟨rfl, rfl⟩
    · have f1 : (m.seed == 0) = true := by simpa using h1
      have f2 : (m.most == 0) = false := by simpa using h2
      rw [show bareV m 106 = false from by show (m.seed == 0 && m.most == 0 && ((m.P.length : Int) == 0)) = _; rw [f1, f2]; rfl]
      clear h1 h2
      go_enter Try.func33, Try.ntmps33
      go_wp2_with fail
      go_ret
      exact ⟨rfl, rfl⟩
  · have f1 : (m.seed == 0) = false := by simpa using h1
    rw [show bareV m 106 = false from by show (m.seed == 0 && m.most == 0 && ((m.P.length : Int) == 0)) = _; rw [f1]; rfl]
    clear h1
    go_enter Try.func33, Try.ntmps33
    go_wp2_with fail
    go_ret
    exact ⟨rfl, rfl⟩
theorem bare_c (w : World) (g : Nat) (m : Ms) (A B : Option Addr) (c d : Nat) (hg : w.heap[g]? = some (.cells (mcells m (.slice A m.P.length c) (.slice B m.L.length d)) 29 (0, 0))) (ch : Int) (hc : isL ch) : Calls Try.prog 33 #[.pointer (some ⟨g, 0, none⟩), .int .u8 ch] w fun er w' => er = .returned (.bool (bareV m ch)) ∧ w = w' := by
  rcases hc with rfl | rfl | rfl | rfl | rfl | rfl | rfl | rfl | rfl
  · exact bare_115 w g m A B c d hg
  · exact bare_101 w g m A B c d hg
  · exact bare_97 w g m A B c d hg
  · exact bare_105 w g m A B c d hg
  · exact bare_110 w g m A B c d hg
  · exact bare_99 w g m A B c d hg
  · exact bare_119 w g m A B c d hg
  · exact bare_106 w g m A B c d hg
  · exact bare_108 w g m A B c d hg
/-- what lacks no field -/
def lackV (m : Ms) : Bool := ([115, 101, 97, 105, 110, 99, 119, 106, 108] : List Int).all fun c => (lettersV m.k).contains c || bareV m c
def mayV (m : Ms) : Bool := !(lettersV m.k).isEmpty && !decide (m.why < 0) && !decide (255 < m.why) && !decide (m.most < 0) && !decide (256 < m.most) && tokV m.P && tokV m.L && lackV m
theorem letters_any (k : Int) : ∃ S : ByteArray, msg_letters.f k = some S ∧ bytesOf S = lettersV k ∧ S.size = (lettersV k).length ∧ (S.toList == []) = (lettersV k).isEmpty := by
  by_cases h : 1 ≤ k ∧ k ≤ 12
  · have hk : k = 1 ∨ k = 2 ∨ k = 3 ∨ k = 4 ∨ k = 5 ∨ k = 6 ∨ k = 7 ∨ k = 8 ∨ k = 9 ∨ k = 10 ∨ k = 11 ∨ k = 12 := by omega
    rcases hk with rfl | rfl | rfl | rfl | rfl | rfl | rfl | rfl | rfl | rfl | rfl | rfl
    · exact ⟨⟨#[115, 101, 106]⟩, by kernel_rfl, by kernel_rfl, by kernel_rfl, by kernel_rfl⟩
    · exact ⟨⟨#[115, 110]⟩, by kernel_rfl, by kernel_rfl, by kernel_rfl, by kernel_rfl⟩
    · exact ⟨⟨#[115]⟩, by kernel_rfl, by kernel_rfl, by kernel_rfl, by kernel_rfl⟩
    · exact ⟨⟨#[115, 110, 108]⟩, by kernel_rfl, by kernel_rfl, by kernel_rfl, by kernel_rfl⟩
    · exact ⟨⟨#[115, 110, 119]⟩, by kernel_rfl, by kernel_rfl, by kernel_rfl, by kernel_rfl⟩
    · exact ⟨⟨#[97, 105, 110, 106]⟩, by kernel_rfl, by kernel_rfl, by kernel_rfl, by kernel_rfl⟩
    · exact ⟨⟨#[97, 105]⟩, by kernel_rfl, by kernel_rfl, by kernel_rfl, by kernel_rfl⟩
    · exact ⟨⟨#[97, 105, 110, 108]⟩, by kernel_rfl, by kernel_rfl, by kernel_rfl, by kernel_rfl⟩
    · exact ⟨⟨#[97, 105, 110, 119]⟩, by kernel_rfl, by kernel_rfl, by kernel_rfl, by kernel_rfl⟩
    · exact ⟨⟨#[110]⟩, by kernel_rfl, by kernel_rfl, by kernel_rfl, by kernel_rfl⟩
    · exact ⟨⟨#[110, 105, 99]⟩, by kernel_rfl, by kernel_rfl, by kernel_rfl, by kernel_rfl⟩
    · exact ⟨⟨#[105]⟩, by kernel_rfl, by kernel_rfl, by kernel_rfl, by kernel_rfl⟩
  · have e0 : lettersV k = [] := by
      unfold lettersV
      repeat rw [if_neg (by omega)]
    have e1 : msg_letters.f k = some ⟨#[]⟩ := by
      unfold msg_letters.f
      repeat rw [if_neg (by omega)]
    rw [e0, e1]
    exact ⟨_, rfl, by kernel_rfl, by kernel_rfl, by kernel_rfl⟩
theorem letters_mem (k : Int) : lettersV k ∈ ([[115, 101, 106], [115, 110], [115], [115, 110, 108], [115, 110, 119], [97, 105, 110, 106], [97, 105], [97, 105, 110, 108], [97, 105, 110, 119], [110], [110, 105, 99], [105], []] : List (List Int)) := by
  unfold lettersV
  repeat' split
  all_goals decide
theorem contains_k (k : Int) (c : Int) (hc : c ∈ ([115, 101, 97, 105, 110, 99, 119, 106, 108] : List Int)) : slices_Contains_byte_byte.f 12 (lettersV k) c = some ((lettersV k).contains c) := by
  have h : ∀ q ∈ ([[115, 101, 106], [115, 110], [115], [115, 110, 108], [115, 110, 119], [97, 105, 110, 106], [97, 105], [97, 105, 110, 108], [97, 105, 110, 119], [110], [110, 105, 99], [105], []] : List (List Int)), ∀ d ∈ ([115, 101, 97, 105, 110, 99, 119, 106, 108] : List Int), slices_Contains_byte_byte.f 12 q d = some (q.contains d) := of_decide_eq_true (by kernel_rfl)
  exact h _ (letters_mem k) c hc
theorem nine_isL : ∀ c ∈ ([115, 101, 97, 105, 110, 99, 119, 106, 108] : List Int), isL c := by decide
set_option maxHeartbeats 16000000 in
theorem may_c (w : World) (m : Ms) (A B : Option Addr) (c d : Nat) (hlP : m.P.length ≤ 1000000) (hlL : m.L.length ≤ 1000000) (hcP : m.P.length ≤ c) (hcL : m.L.length ≤ d) (hP : Kd.C (Kd.int .i64) w A m.P.length m.P) (hL : Kd.C (Kd.int .i64) w B m.L.length m.L) :
    Calls Try.prog 12 #[.agg #[.int .i64 m.k, .int .u64 m.s, .int .u64 m.se, .int .u64 m.a, .int .u64 m.i, .int .u64 m.n, .int .u64 m.c, .int .i64 m.why, .int .u64 m.seed, .slice A m.P.length c, .int .i64 m.most, .slice B m.L.length d]] w fun er w' => er = .returned (.bool (mayV m)) ∧ Below w.heap.size w w' := by
  have hu := Try.underlying29
  have hu27 := Try.underlying27
  have HTP := Aside0.mk (fun W (hw : Below w.heap.size w W) => tokens_c A c m.P hlP hcP W (Kd.C_below hP hw))
  have HTL := Aside0.mk (fun W (hw : Below w.heap.size w W) => tokens_c B d m.L hlL hcL W (Kd.C_below hL hw))
  obtain ⟨S, hS, hSb, hSn, hSe⟩ := letters_any m.k
  have HS := Aside0.mk hS; have HSB := Aside0.mk hSb; have HSN := Aside0.mk hSn
  clear hlP hlL hcP hcL hP hL hS hSb hSn
  by_cases hE : (lettersV m.k).isEmpty = true
  · have hmay : mayV m = false := by unfold mayV; rw [hE]; rfl
    rw [hE] at hSe
    rw [hmay]
    clear hE hmay
    go_enter Try.func12, Try.ntmps12
    go_wp2_with (first | ((with_reducible refine gate_dst (N := 1) rfl ?_); refine box_event ?hg (N := 1) ?hd (cs := #[.int .i64 m.k, .int .u64 m.s, .int .u64 m.se, .int .u64 m.a, .int .u64 m.i, .int .u64 m.n, .int .u64 m.c, .int .i64 m.why, .int .u64 m.seed, .slice A m.P.length c, .int .i64 m.most, .slice B m.L.length d]) (t := 29) ?hr ?_; (case hd => rfl); (case hg => rfl); (case hr => first | (go_simp; done) | (go_simp; rfl)); intro g hgn w5 hbox hb; have HG := Aside0.mk hbox; have HB5 := Aside0.mk hb; have HGN := Aside0.mk hgn; have u0 : w5.cell? ⟨g, 0, none⟩ = some (.int .i64 m.k) := blk_cell hbox 0; have uf0 : w5.frozen? ⟨g, 0, none⟩ = false := blk_frozen hbox 0; have u1 : w5.cell? ⟨g, 1, none⟩ = some (.int .u64 m.s) := blk_cell hbox 1; have uf1 : w5.frozen? ⟨g, 1, none⟩ = false := blk_frozen hbox 1; have u2 : w5.cell? ⟨g, 2, none⟩ = some (.int .u64 m.se) := blk_cell hbox 2; have uf2 : w5.frozen? ⟨g, 2, none⟩ = false := blk_frozen hbox 2; have u3 : w5.cell? ⟨g, 3, none⟩ = some (.int .u64 m.a) := blk_cell hbox 3; have uf3 : w5.frozen? ⟨g, 3, none⟩ = false := blk_frozen hbox 3; have u4 : w5.cell? ⟨g, 4, none⟩ = some (.int .u64 m.i) := blk_cell hbox 4; have uf4 : w5.frozen? ⟨g, 4, none⟩ = false := blk_frozen hbox 4; have u5 : w5.cell? ⟨g, 5, none⟩ = some (.int .u64 m.n) := blk_cell hbox 5; have uf5 : w5.frozen? ⟨g, 5, none⟩ = false := blk_frozen hbox 5; have u6 : w5.cell? ⟨g, 6, none⟩ = some (.int .u64 m.c) := blk_cell hbox 6; have uf6 : w5.frozen? ⟨g, 6, none⟩ = false := blk_frozen hbox 6; have u7 : w5.cell? ⟨g, 7, none⟩ = some (.int .i64 m.why) := blk_cell hbox 7; have uf7 : w5.frozen? ⟨g, 7, none⟩ = false := blk_frozen hbox 7; have u8 : w5.cell? ⟨g, 8, none⟩ = some (.int .u64 m.seed) := blk_cell hbox 8; have uf8 : w5.frozen? ⟨g, 8, none⟩ = false := blk_frozen hbox 8; have u9 : w5.cell? ⟨g, 9, none⟩ = some (.slice A m.P.length c) := blk_cell hbox 9; have uf9 : w5.frozen? ⟨g, 9, none⟩ = false := blk_frozen hbox 9; have u10 : w5.cell? ⟨g, 10, none⟩ = some (.int .i64 m.most) := blk_cell hbox 10; have uf10 : w5.frozen? ⟨g, 10, none⟩ = false := blk_frozen hbox 10; have u11 : w5.cell? ⟨g, 11, none⟩ = some (.slice B m.L.length d) := blk_cell hbox 11; have uf11 : w5.frozen? ⟨g, 11, none⟩ = false := blk_frozen hbox 11; clear hbox hb hgn) | (go_at_call 25; (with_reducible refine (msg_letters.calls m.k S _ HS.out).mono ?_); rintro er w12 ⟨rfl, hdr⟩; obtain ⟨nd, rfl⟩ := hdr) | (go_at_call 31; (with_reducible refine (HTP.out _ (pw_below_drewN HB5.out nd)).mono ?_); rintro er w13 ⟨rfl, hb⟩; have HB13 := Aside0.mk hb; have HG13 := Aside0.mk (blk_below (blk_drewN HG.out nd) hb); have ul13 : w13.cell? ⟨g, 11, none⟩ = some (.slice B m.L.length d) := blk_cell HG13.out 11; clear hb) | (go_at_call 31; (with_reducible refine (HTL.out _ (below_step (pw_below_drewN HB5.out nd) HB13.out)).mono ?_); rintro er w14 ⟨rfl, hb⟩; have HB14 := Aside0.mk hb; have HG14 := Aside0.mk (blk_below HG13.out hb); have ul14 : w14.cell? ⟨g, 11, none⟩ = some (.slice B m.L.length d) := blk_cell HG14.out 11; clear hb))
    go_ret
    exact ⟨rfl, pw_below_drewN HB5.out nd⟩
  have hE : (lettersV m.k).isEmpty = false := by simpa using hE
  rw [hE] at hSe
  by_cases hW0 : m.why < 0
  · have q : decide (m.why < 0) = true := decide_eq_true hW0
    have hmay : mayV m = false := by unfold mayV; rw [hE, q]; simp
    rw [hmay]
    clear hmay hE hW0
    go_enter Try.func12, Try.ntmps12
    go_wp2_with (first | ((with_reducible refine gate_dst (N := 1) rfl ?_); refine box_event ?hg (N := 1) ?hd (cs := #[.int .i64 m.k, .int .u64 m.s, .int .u64 m.se, .int .u64 m.a, .int .u64 m.i, .int .u64 m.n, .int .u64 m.c, .int .i64 m.why, .int .u64 m.seed, .slice A m.P.length c, .int .i64 m.most, .slice B m.L.length d]) (t := 29) ?hr ?_; (case hd => rfl); (case hg => rfl); (case hr => first | (go_simp; done) | (go_simp; rfl)); intro g hgn w5 hbox hb; have HG := Aside0.mk hbox; have HB5 := Aside0.mk hb; have HGN := Aside0.mk hgn; have u0 : w5.cell? ⟨g, 0, none⟩ = some (.int .i64 m.k) := blk_cell hbox 0; have uf0 : w5.frozen? ⟨g, 0, none⟩ = false := blk_frozen hbox 0; have u1 : w5.cell? ⟨g, 1, none⟩ = some (.int .u64 m.s) := blk_cell hbox 1; have uf1 : w5.frozen? ⟨g, 1, none⟩ = false := blk_frozen hbox 1; have u2 : w5.cell? ⟨g, 2, none⟩ = some (.int .u64 m.se) := blk_cell hbox 2; have uf2 : w5.frozen? ⟨g, 2, none⟩ = false := blk_frozen hbox 2; have u3 : w5.cell? ⟨g, 3, none⟩ = some (.int .u64 m.a) := blk_cell hbox 3; have uf3 : w5.frozen? ⟨g, 3, none⟩ = false := blk_frozen hbox 3; have u4 : w5.cell? ⟨g, 4, none⟩ = some (.int .u64 m.i) := blk_cell hbox 4; have uf4 : w5.frozen? ⟨g, 4, none⟩ = false := blk_frozen hbox 4; have u5 : w5.cell? ⟨g, 5, none⟩ = some (.int .u64 m.n) := blk_cell hbox 5; have uf5 : w5.frozen? ⟨g, 5, none⟩ = false := blk_frozen hbox 5; have u6 : w5.cell? ⟨g, 6, none⟩ = some (.int .u64 m.c) := blk_cell hbox 6; have uf6 : w5.frozen? ⟨g, 6, none⟩ = false := blk_frozen hbox 6; have u7 : w5.cell? ⟨g, 7, none⟩ = some (.int .i64 m.why) := blk_cell hbox 7; have uf7 : w5.frozen? ⟨g, 7, none⟩ = false := blk_frozen hbox 7; have u8 : w5.cell? ⟨g, 8, none⟩ = some (.int .u64 m.seed) := blk_cell hbox 8; have uf8 : w5.frozen? ⟨g, 8, none⟩ = false := blk_frozen hbox 8; have u9 : w5.cell? ⟨g, 9, none⟩ = some (.slice A m.P.length c) := blk_cell hbox 9; have uf9 : w5.frozen? ⟨g, 9, none⟩ = false := blk_frozen hbox 9; have u10 : w5.cell? ⟨g, 10, none⟩ = some (.int .i64 m.most) := blk_cell hbox 10; have uf10 : w5.frozen? ⟨g, 10, none⟩ = false := blk_frozen hbox 10; have u11 : w5.cell? ⟨g, 11, none⟩ = some (.slice B m.L.length d) := blk_cell hbox 11; have uf11 : w5.frozen? ⟨g, 11, none⟩ = false := blk_frozen hbox 11; clear hbox hb hgn) | (go_at_call 25; (with_reducible refine (msg_letters.calls m.k S _ HS.out).mono ?_); rintro er w12 ⟨rfl, hdr⟩; obtain ⟨nd, rfl⟩ := hdr) | (go_at_call 31; (with_reducible refine (HTP.out _ (pw_below_drewN HB5.out nd)).mono ?_); rintro er w13 ⟨rfl, hb⟩; have HB13 := Aside0.mk hb; have HG13 := Aside0.mk (blk_below (blk_drewN HG.out nd) hb); have ul13 : w13.cell? ⟨g, 11, none⟩ = some (.slice B m.L.length d) := blk_cell HG13.out 11; clear hb) | (go_at_call 31; (with_reducible refine (HTL.out _ (below_step (pw_below_drewN HB5.out nd) HB13.out)).mono ?_); rintro er w14 ⟨rfl, hb⟩; have HB14 := Aside0.mk hb; have HG14 := Aside0.mk (blk_below HG13.out hb); have ul14 : w14.cell? ⟨g, 11, none⟩ = some (.slice B m.L.length d) := blk_cell HG14.out 11; clear hb))
    go_ret
    exact ⟨rfl, by first | exact pw_below_drewN HB5.out nd | exact below_step (below_step (pw_below_drewN HB5.out nd) HB13.out) HB14.out | exact below_step (pw_below_drewN HB5.out nd) HB13.out⟩
  have q1 : decide (m.why < 0) = false := decide_eq_false hW0
  by_cases hW1 : 255 < m.why
  · have q : decide (255 < m.why) = true := decide_eq_true hW1
    have hmay : mayV m = false := by unfold mayV; rw [hE, q1, q]; simp
    rw [hmay]
    clear hmay hE hW0 hW1
    go_enter Try.func12, Try.ntmps12
    go_wp2_with (first | ((with_reducible refine gate_dst (N := 1) rfl ?_); refine box_event ?hg (N := 1) ?hd (cs := #[.int .i64 m.k, .int .u64 m.s, .int .u64 m.se, .int .u64 m.a, .int .u64 m.i, .int .u64 m.n, .int .u64 m.c, .int .i64 m.why, .int .u64 m.seed, .slice A m.P.length c, .int .i64 m.most, .slice B m.L.length d]) (t := 29) ?hr ?_; (case hd => rfl); (case hg => rfl); (case hr => first | (go_simp; done) | (go_simp; rfl)); intro g hgn w5 hbox hb; have HG := Aside0.mk hbox; have HB5 := Aside0.mk hb; have HGN := Aside0.mk hgn; have u0 : w5.cell? ⟨g, 0, none⟩ = some (.int .i64 m.k) := blk_cell hbox 0; have uf0 : w5.frozen? ⟨g, 0, none⟩ = false := blk_frozen hbox 0; have u1 : w5.cell? ⟨g, 1, none⟩ = some (.int .u64 m.s) := blk_cell hbox 1; have uf1 : w5.frozen? ⟨g, 1, none⟩ = false := blk_frozen hbox 1; have u2 : w5.cell? ⟨g, 2, none⟩ = some (.int .u64 m.se) := blk_cell hbox 2; have uf2 : w5.frozen? ⟨g, 2, none⟩ = false := blk_frozen hbox 2; have u3 : w5.cell? ⟨g, 3, none⟩ = some (.int .u64 m.a) := blk_cell hbox 3; have uf3 : w5.frozen? ⟨g, 3, none⟩ = false := blk_frozen hbox 3; have u4 : w5.cell? ⟨g, 4, none⟩ = some (.int .u64 m.i) := blk_cell hbox 4; have uf4 : w5.frozen? ⟨g, 4, none⟩ = false := blk_frozen hbox 4; have u5 : w5.cell? ⟨g, 5, none⟩ = some (.int .u64 m.n) := blk_cell hbox 5; have uf5 : w5.frozen? ⟨g, 5, none⟩ = false := blk_frozen hbox 5; have u6 : w5.cell? ⟨g, 6, none⟩ = some (.int .u64 m.c) := blk_cell hbox 6; have uf6 : w5.frozen? ⟨g, 6, none⟩ = false := blk_frozen hbox 6; have u7 : w5.cell? ⟨g, 7, none⟩ = some (.int .i64 m.why) := blk_cell hbox 7; have uf7 : w5.frozen? ⟨g, 7, none⟩ = false := blk_frozen hbox 7; have u8 : w5.cell? ⟨g, 8, none⟩ = some (.int .u64 m.seed) := blk_cell hbox 8; have uf8 : w5.frozen? ⟨g, 8, none⟩ = false := blk_frozen hbox 8; have u9 : w5.cell? ⟨g, 9, none⟩ = some (.slice A m.P.length c) := blk_cell hbox 9; have uf9 : w5.frozen? ⟨g, 9, none⟩ = false := blk_frozen hbox 9; have u10 : w5.cell? ⟨g, 10, none⟩ = some (.int .i64 m.most) := blk_cell hbox 10; have uf10 : w5.frozen? ⟨g, 10, none⟩ = false := blk_frozen hbox 10; have u11 : w5.cell? ⟨g, 11, none⟩ = some (.slice B m.L.length d) := blk_cell hbox 11; have uf11 : w5.frozen? ⟨g, 11, none⟩ = false := blk_frozen hbox 11; clear hbox hb hgn) | (go_at_call 25; (with_reducible refine (msg_letters.calls m.k S _ HS.out).mono ?_); rintro er w12 ⟨rfl, hdr⟩; obtain ⟨nd, rfl⟩ := hdr) | (go_at_call 31; (with_reducible refine (HTP.out _ (pw_below_drewN HB5.out nd)).mono ?_); rintro er w13 ⟨rfl, hb⟩; have HB13 := Aside0.mk hb; have HG13 := Aside0.mk (blk_below (blk_drewN HG.out nd) hb); have ul13 : w13.cell? ⟨g, 11, none⟩ = some (.slice B m.L.length d) := blk_cell HG13.out 11; clear hb) | (go_at_call 31; (with_reducible refine (HTL.out _ (below_step (pw_below_drewN HB5.out nd) HB13.out)).mono ?_); rintro er w14 ⟨rfl, hb⟩; have HB14 := Aside0.mk hb; have HG14 := Aside0.mk (blk_below HG13.out hb); have ul14 : w14.cell? ⟨g, 11, none⟩ = some (.slice B m.L.length d) := blk_cell HG14.out 11; clear hb))
    go_ret
    exact ⟨rfl, by first | exact pw_below_drewN HB5.out nd | exact below_step (below_step (pw_below_drewN HB5.out nd) HB13.out) HB14.out | exact below_step (pw_below_drewN HB5.out nd) HB13.out⟩
  have q2 : decide (255 < m.why) = false := decide_eq_false hW1
  by_cases hM0 : m.most < 0
  · have q : decide (m.most < 0) = true := decide_eq_true hM0
    have hmay : mayV m = false := by unfold mayV; rw [hE, q1, q2, q]; simp
    rw [hmay]
    clear hmay hE hW0 hW1 hM0
    go_enter Try.func12, Try.ntmps12
    go_wp2_with (first | ((with_reducible refine gate_dst (N := 1) rfl ?_); refine box_event ?hg (N := 1) ?hd (cs := #[.int .i64 m.k, .int .u64 m.s, .int .u64 m.se, .int .u64 m.a, .int .u64 m.i, .int .u64 m.n, .int .u64 m.c, .int .i64 m.why, .int .u64 m.seed, .slice A m.P.length c, .int .i64 m.most, .slice B m.L.length d]) (t := 29) ?hr ?_; (case hd => rfl); (case hg => rfl); (case hr => first | (go_simp; done) | (go_simp; rfl)); intro g hgn w5 hbox hb; have HG := Aside0.mk hbox; have HB5 := Aside0.mk hb; have HGN := Aside0.mk hgn; have u0 : w5.cell? ⟨g, 0, none⟩ = some (.int .i64 m.k) := blk_cell hbox 0; have uf0 : w5.frozen? ⟨g, 0, none⟩ = false := blk_frozen hbox 0; have u1 : w5.cell? ⟨g, 1, none⟩ = some (.int .u64 m.s) := blk_cell hbox 1; have uf1 : w5.frozen? ⟨g, 1, none⟩ = false := blk_frozen hbox 1; have u2 : w5.cell? ⟨g, 2, none⟩ = some (.int .u64 m.se) := blk_cell hbox 2; have uf2 : w5.frozen? ⟨g, 2, none⟩ = false := blk_frozen hbox 2; have u3 : w5.cell? ⟨g, 3, none⟩ = some (.int .u64 m.a) := blk_cell hbox 3; have uf3 : w5.frozen? ⟨g, 3, none⟩ = false := blk_frozen hbox 3; have u4 : w5.cell? ⟨g, 4, none⟩ = some (.int .u64 m.i) := blk_cell hbox 4; have uf4 : w5.frozen? ⟨g, 4, none⟩ = false := blk_frozen hbox 4; have u5 : w5.cell? ⟨g, 5, none⟩ = some (.int .u64 m.n) := blk_cell hbox 5; have uf5 : w5.frozen? ⟨g, 5, none⟩ = false := blk_frozen hbox 5; have u6 : w5.cell? ⟨g, 6, none⟩ = some (.int .u64 m.c) := blk_cell hbox 6; have uf6 : w5.frozen? ⟨g, 6, none⟩ = false := blk_frozen hbox 6; have u7 : w5.cell? ⟨g, 7, none⟩ = some (.int .i64 m.why) := blk_cell hbox 7; have uf7 : w5.frozen? ⟨g, 7, none⟩ = false := blk_frozen hbox 7; have u8 : w5.cell? ⟨g, 8, none⟩ = some (.int .u64 m.seed) := blk_cell hbox 8; have uf8 : w5.frozen? ⟨g, 8, none⟩ = false := blk_frozen hbox 8; have u9 : w5.cell? ⟨g, 9, none⟩ = some (.slice A m.P.length c) := blk_cell hbox 9; have uf9 : w5.frozen? ⟨g, 9, none⟩ = false := blk_frozen hbox 9; have u10 : w5.cell? ⟨g, 10, none⟩ = some (.int .i64 m.most) := blk_cell hbox 10; have uf10 : w5.frozen? ⟨g, 10, none⟩ = false := blk_frozen hbox 10; have u11 : w5.cell? ⟨g, 11, none⟩ = some (.slice B m.L.length d) := blk_cell hbox 11; have uf11 : w5.frozen? ⟨g, 11, none⟩ = false := blk_frozen hbox 11; clear hbox hb hgn) | (go_at_call 25; (with_reducible refine (msg_letters.calls m.k S _ HS.out).mono ?_); rintro er w12 ⟨rfl, hdr⟩; obtain ⟨nd, rfl⟩ := hdr) | (go_at_call 31; (with_reducible refine (HTP.out _ (pw_below_drewN HB5.out nd)).mono ?_); rintro er w13 ⟨rfl, hb⟩; have HB13 := Aside0.mk hb; have HG13 := Aside0.mk (blk_below (blk_drewN HG.out nd) hb); have ul13 : w13.cell? ⟨g, 11, none⟩ = some (.slice B m.L.length d) := blk_cell HG13.out 11; clear hb) | (go_at_call 31; (with_reducible refine (HTL.out _ (below_step (pw_below_drewN HB5.out nd) HB13.out)).mono ?_); rintro er w14 ⟨rfl, hb⟩; have HB14 := Aside0.mk hb; have HG14 := Aside0.mk (blk_below HG13.out hb); have ul14 : w14.cell? ⟨g, 11, none⟩ = some (.slice B m.L.length d) := blk_cell HG14.out 11; clear hb))
    go_ret
    exact ⟨rfl, by first | exact pw_below_drewN HB5.out nd | exact below_step (below_step (pw_below_drewN HB5.out nd) HB13.out) HB14.out | exact below_step (pw_below_drewN HB5.out nd) HB13.out⟩
  have q3 : decide (m.most < 0) = false := decide_eq_false hM0
  by_cases hM1 : 256 < m.most
  · have q : decide (256 < m.most) = true := decide_eq_true hM1
    have hmay : mayV m = false := by unfold mayV; rw [hE, q1, q2, q3, q]; simp
    rw [hmay]
    clear hmay hE hW0 hW1 hM0 hM1
    go_enter Try.func12, Try.ntmps12
    go_wp2_with (first | ((with_reducible refine gate_dst (N := 1) rfl ?_); refine box_event ?hg (N := 1) ?hd (cs := #[.int .i64 m.k, .int .u64 m.s, .int .u64 m.se, .int .u64 m.a, .int .u64 m.i, .int .u64 m.n, .int .u64 m.c, .int .i64 m.why, .int .u64 m.seed, .slice A m.P.length c, .int .i64 m.most, .slice B m.L.length d]) (t := 29) ?hr ?_; (case hd => rfl); (case hg => rfl); (case hr => first | (go_simp; done) | (go_simp; rfl)); intro g hgn w5 hbox hb; have HG := Aside0.mk hbox; have HB5 := Aside0.mk hb; have HGN := Aside0.mk hgn; have u0 : w5.cell? ⟨g, 0, none⟩ = some (.int .i64 m.k) := blk_cell hbox 0; have uf0 : w5.frozen? ⟨g, 0, none⟩ = false := blk_frozen hbox 0; have u1 : w5.cell? ⟨g, 1, none⟩ = some (.int .u64 m.s) := blk_cell hbox 1; have uf1 : w5.frozen? ⟨g, 1, none⟩ = false := blk_frozen hbox 1; have u2 : w5.cell? ⟨g, 2, none⟩ = some (.int .u64 m.se) := blk_cell hbox 2; have uf2 : w5.frozen? ⟨g, 2, none⟩ = false := blk_frozen hbox 2; have u3 : w5.cell? ⟨g, 3, none⟩ = some (.int .u64 m.a) := blk_cell hbox 3; have uf3 : w5.frozen? ⟨g, 3, none⟩ = false := blk_frozen hbox 3; have u4 : w5.cell? ⟨g, 4, none⟩ = some (.int .u64 m.i) := blk_cell hbox 4; have uf4 : w5.frozen? ⟨g, 4, none⟩ = false := blk_frozen hbox 4; have u5 : w5.cell? ⟨g, 5, none⟩ = some (.int .u64 m.n) := blk_cell hbox 5; have uf5 : w5.frozen? ⟨g, 5, none⟩ = false := blk_frozen hbox 5; have u6 : w5.cell? ⟨g, 6, none⟩ = some (.int .u64 m.c) := blk_cell hbox 6; have uf6 : w5.frozen? ⟨g, 6, none⟩ = false := blk_frozen hbox 6; have u7 : w5.cell? ⟨g, 7, none⟩ = some (.int .i64 m.why) := blk_cell hbox 7; have uf7 : w5.frozen? ⟨g, 7, none⟩ = false := blk_frozen hbox 7; have u8 : w5.cell? ⟨g, 8, none⟩ = some (.int .u64 m.seed) := blk_cell hbox 8; have uf8 : w5.frozen? ⟨g, 8, none⟩ = false := blk_frozen hbox 8; have u9 : w5.cell? ⟨g, 9, none⟩ = some (.slice A m.P.length c) := blk_cell hbox 9; have uf9 : w5.frozen? ⟨g, 9, none⟩ = false := blk_frozen hbox 9; have u10 : w5.cell? ⟨g, 10, none⟩ = some (.int .i64 m.most) := blk_cell hbox 10; have uf10 : w5.frozen? ⟨g, 10, none⟩ = false := blk_frozen hbox 10; have u11 : w5.cell? ⟨g, 11, none⟩ = some (.slice B m.L.length d) := blk_cell hbox 11; have uf11 : w5.frozen? ⟨g, 11, none⟩ = false := blk_frozen hbox 11; clear hbox hb hgn) | (go_at_call 25; (with_reducible refine (msg_letters.calls m.k S _ HS.out).mono ?_); rintro er w12 ⟨rfl, hdr⟩; obtain ⟨nd, rfl⟩ := hdr) | (go_at_call 31; (with_reducible refine (HTP.out _ (pw_below_drewN HB5.out nd)).mono ?_); rintro er w13 ⟨rfl, hb⟩; have HB13 := Aside0.mk hb; have HG13 := Aside0.mk (blk_below (blk_drewN HG.out nd) hb); have ul13 : w13.cell? ⟨g, 11, none⟩ = some (.slice B m.L.length d) := blk_cell HG13.out 11; clear hb) | (go_at_call 31; (with_reducible refine (HTL.out _ (below_step (pw_below_drewN HB5.out nd) HB13.out)).mono ?_); rintro er w14 ⟨rfl, hb⟩; have HB14 := Aside0.mk hb; have HG14 := Aside0.mk (blk_below HG13.out hb); have ul14 : w14.cell? ⟨g, 11, none⟩ = some (.slice B m.L.length d) := blk_cell HG14.out 11; clear hb))
    go_ret
    exact ⟨rfl, by first | exact pw_below_drewN HB5.out nd | exact below_step (below_step (pw_below_drewN HB5.out nd) HB13.out) HB14.out | exact below_step (pw_below_drewN HB5.out nd) HB13.out⟩
  have q4 : decide (256 < m.most) = false := decide_eq_false hM1
  by_cases hP : tokV m.P = false
  · have q := hP
    have hmay : mayV m = false := by unfold mayV; rw [hE, q1, q2, q3, q4, q]; simp
    rw [hmay]
    clear hmay hE hW0 hW1 hM0 hM1 hP
    go_enter Try.func12, Try.ntmps12
    go_wp2_with (first | ((with_reducible refine gate_dst (N := 1) rfl ?_); refine box_event ?hg (N := 1) ?hd (cs := #[.int .i64 m.k, .int .u64 m.s, .int .u64 m.se, .int .u64 m.a, .int .u64 m.i, .int .u64 m.n, .int .u64 m.c, .int .i64 m.why, .int .u64 m.seed, .slice A m.P.length c, .int .i64 m.most, .slice B m.L.length d]) (t := 29) ?hr ?_; (case hd => rfl); (case hg => rfl); (case hr => first | (go_simp; done) | (go_simp; rfl)); intro g hgn w5 hbox hb; have HG := Aside0.mk hbox; have HB5 := Aside0.mk hb; have HGN := Aside0.mk hgn; have u0 : w5.cell? ⟨g, 0, none⟩ = some (.int .i64 m.k) := blk_cell hbox 0; have uf0 : w5.frozen? ⟨g, 0, none⟩ = false := blk_frozen hbox 0; have u1 : w5.cell? ⟨g, 1, none⟩ = some (.int .u64 m.s) := blk_cell hbox 1; have uf1 : w5.frozen? ⟨g, 1, none⟩ = false := blk_frozen hbox 1; have u2 : w5.cell? ⟨g, 2, none⟩ = some (.int .u64 m.se) := blk_cell hbox 2; have uf2 : w5.frozen? ⟨g, 2, none⟩ = false := blk_frozen hbox 2; have u3 : w5.cell? ⟨g, 3, none⟩ = some (.int .u64 m.a) := blk_cell hbox 3; have uf3 : w5.frozen? ⟨g, 3, none⟩ = false := blk_frozen hbox 3; have u4 : w5.cell? ⟨g, 4, none⟩ = some (.int .u64 m.i) := blk_cell hbox 4; have uf4 : w5.frozen? ⟨g, 4, none⟩ = false := blk_frozen hbox 4; have u5 : w5.cell? ⟨g, 5, none⟩ = some (.int .u64 m.n) := blk_cell hbox 5; have uf5 : w5.frozen? ⟨g, 5, none⟩ = false := blk_frozen hbox 5; have u6 : w5.cell? ⟨g, 6, none⟩ = some (.int .u64 m.c) := blk_cell hbox 6; have uf6 : w5.frozen? ⟨g, 6, none⟩ = false := blk_frozen hbox 6; have u7 : w5.cell? ⟨g, 7, none⟩ = some (.int .i64 m.why) := blk_cell hbox 7; have uf7 : w5.frozen? ⟨g, 7, none⟩ = false := blk_frozen hbox 7; have u8 : w5.cell? ⟨g, 8, none⟩ = some (.int .u64 m.seed) := blk_cell hbox 8; have uf8 : w5.frozen? ⟨g, 8, none⟩ = false := blk_frozen hbox 8; have u9 : w5.cell? ⟨g, 9, none⟩ = some (.slice A m.P.length c) := blk_cell hbox 9; have uf9 : w5.frozen? ⟨g, 9, none⟩ = false := blk_frozen hbox 9; have u10 : w5.cell? ⟨g, 10, none⟩ = some (.int .i64 m.most) := blk_cell hbox 10; have uf10 : w5.frozen? ⟨g, 10, none⟩ = false := blk_frozen hbox 10; have u11 : w5.cell? ⟨g, 11, none⟩ = some (.slice B m.L.length d) := blk_cell hbox 11; have uf11 : w5.frozen? ⟨g, 11, none⟩ = false := blk_frozen hbox 11; clear hbox hb hgn) | (go_at_call 25; (with_reducible refine (msg_letters.calls m.k S _ HS.out).mono ?_); rintro er w12 ⟨rfl, hdr⟩; obtain ⟨nd, rfl⟩ := hdr) | (go_at_call 31; (with_reducible refine (HTP.out _ (pw_below_drewN HB5.out nd)).mono ?_); rintro er w13 ⟨rfl, hb⟩; have HB13 := Aside0.mk hb; have HG13 := Aside0.mk (blk_below (blk_drewN HG.out nd) hb); have ul13 : w13.cell? ⟨g, 11, none⟩ = some (.slice B m.L.length d) := blk_cell HG13.out 11; clear hb) | (go_at_call 31; (with_reducible refine (HTL.out _ (below_step (pw_below_drewN HB5.out nd) HB13.out)).mono ?_); rintro er w14 ⟨rfl, hb⟩; have HB14 := Aside0.mk hb; have HG14 := Aside0.mk (blk_below HG13.out hb); have ul14 : w14.cell? ⟨g, 11, none⟩ = some (.slice B m.L.length d) := blk_cell HG14.out 11; clear hb))
    go_ret
    exact ⟨rfl, by first | exact pw_below_drewN HB5.out nd | exact below_step (below_step (pw_below_drewN HB5.out nd) HB13.out) HB14.out | exact below_step (pw_below_drewN HB5.out nd) HB13.out⟩
  have q5 : tokV m.P = true := by simpa using hP
  by_cases hL : tokV m.L = false
  · have q := hL
    have hmay : mayV m = false := by unfold mayV; rw [hE, q1, q2, q3, q4, q5, q]; simp
    rw [hmay]
    clear hmay hE hW0 hW1 hM0 hM1 hP hL
    go_enter Try.func12, Try.ntmps12
    go_wp2_with (first | ((with_reducible refine gate_dst (N := 1) rfl ?_); refine box_event ?hg (N := 1) ?hd (cs := #[.int .i64 m.k, .int .u64 m.s, .int .u64 m.se, .int .u64 m.a, .int .u64 m.i, .int .u64 m.n, .int .u64 m.c, .int .i64 m.why, .int .u64 m.seed, .slice A m.P.length c, .int .i64 m.most, .slice B m.L.length d]) (t := 29) ?hr ?_; (case hd => rfl); (case hg => rfl); (case hr => first | (go_simp; done) | (go_simp; rfl)); intro g hgn w5 hbox hb; have HG := Aside0.mk hbox; have HB5 := Aside0.mk hb; have HGN := Aside0.mk hgn; have u0 : w5.cell? ⟨g, 0, none⟩ = some (.int .i64 m.k) := blk_cell hbox 0; have uf0 : w5.frozen? ⟨g, 0, none⟩ = false := blk_frozen hbox 0; have u1 : w5.cell? ⟨g, 1, none⟩ = some (.int .u64 m.s) := blk_cell hbox 1; have uf1 : w5.frozen? ⟨g, 1, none⟩ = false := blk_frozen hbox 1; have u2 : w5.cell? ⟨g, 2, none⟩ = some (.int .u64 m.se) := blk_cell hbox 2; have uf2 : w5.frozen? ⟨g, 2, none⟩ = false := blk_frozen hbox 2; have u3 : w5.cell? ⟨g, 3, none⟩ = some (.int .u64 m.a) := blk_cell hbox 3; have uf3 : w5.frozen? ⟨g, 3, none⟩ = false := blk_frozen hbox 3; have u4 : w5.cell? ⟨g, 4, none⟩ = some (.int .u64 m.i) := blk_cell hbox 4; have uf4 : w5.frozen? ⟨g, 4, none⟩ = false := blk_frozen hbox 4; have u5 : w5.cell? ⟨g, 5, none⟩ = some (.int .u64 m.n) := blk_cell hbox 5; have uf5 : w5.frozen? ⟨g, 5, none⟩ = false := blk_frozen hbox 5; have u6 : w5.cell? ⟨g, 6, none⟩ = some (.int .u64 m.c) := blk_cell hbox 6; have uf6 : w5.frozen? ⟨g, 6, none⟩ = false := blk_frozen hbox 6; have u7 : w5.cell? ⟨g, 7, none⟩ = some (.int .i64 m.why) := blk_cell hbox 7; have uf7 : w5.frozen? ⟨g, 7, none⟩ = false := blk_frozen hbox 7; have u8 : w5.cell? ⟨g, 8, none⟩ = some (.int .u64 m.seed) := blk_cell hbox 8; have uf8 : w5.frozen? ⟨g, 8, none⟩ = false := blk_frozen hbox 8; have u9 : w5.cell? ⟨g, 9, none⟩ = some (.slice A m.P.length c) := blk_cell hbox 9; have uf9 : w5.frozen? ⟨g, 9, none⟩ = false := blk_frozen hbox 9; have u10 : w5.cell? ⟨g, 10, none⟩ = some (.int .i64 m.most) := blk_cell hbox 10; have uf10 : w5.frozen? ⟨g, 10, none⟩ = false := blk_frozen hbox 10; have u11 : w5.cell? ⟨g, 11, none⟩ = some (.slice B m.L.length d) := blk_cell hbox 11; have uf11 : w5.frozen? ⟨g, 11, none⟩ = false := blk_frozen hbox 11; clear hbox hb hgn) | (go_at_call 25; (with_reducible refine (msg_letters.calls m.k S _ HS.out).mono ?_); rintro er w12 ⟨rfl, hdr⟩; obtain ⟨nd, rfl⟩ := hdr) | (go_at_call 31; (with_reducible refine (HTP.out _ (pw_below_drewN HB5.out nd)).mono ?_); rintro er w13 ⟨rfl, hb⟩; have HB13 := Aside0.mk hb; have HG13 := Aside0.mk (blk_below (blk_drewN HG.out nd) hb); have ul13 : w13.cell? ⟨g, 11, none⟩ = some (.slice B m.L.length d) := blk_cell HG13.out 11; clear hb) | (go_at_call 31; (with_reducible refine (HTL.out _ (below_step (pw_below_drewN HB5.out nd) HB13.out)).mono ?_); rintro er w14 ⟨rfl, hb⟩; have HB14 := Aside0.mk hb; have HG14 := Aside0.mk (blk_below HG13.out hb); have ul14 : w14.cell? ⟨g, 11, none⟩ = some (.slice B m.L.length d) := blk_cell HG14.out 11; clear hb))
    go_ret
    exact ⟨rfl, by first | exact pw_below_drewN HB5.out nd | exact below_step (below_step (pw_below_drewN HB5.out nd) HB13.out) HB14.out | exact below_step (pw_below_drewN HB5.out nd) HB13.out⟩
  have q6 : tokV m.L = true := by simpa using hL
  have hmay : mayV m = lackV m := by unfold mayV; rw [hE, q1, q2, q3, q4, q5, q6]; rfl
  rw [hmay]
  obtain ⟨lk, hlk⟩ : ∃ b, lackV m = b := ⟨_, rfl⟩
  have HLK := Aside0.mk hlk
  rw [hlk]
  clear hlk
  have kb := fun W => print_bytes (P := Try.prog) 9 22 5 Try.underlying9 Try.underlying22 Try.underlying5 S W
  have kc := fun (w : World) (C : Array Value) (n c : Nat) => Lib.run_convert_bytes_const (P := Try.prog) w 22 5 C n c Try.underlying22 Try.underlying5
  clear hmay hE hW0 hW1 hM0 hM1 hP hL
  go_enter Try.func12, Try.ntmps12
  go_wp2_with (first | ((with_reducible refine gate_dst (N := 1) rfl ?_); refine box_event ?hg (N := 1) ?hd (cs := #[.int .i64 m.k, .int .u64 m.s, .int .u64 m.se, .int .u64 m.a, .int .u64 m.i, .int .u64 m.n, .int .u64 m.c, .int .i64 m.why, .int .u64 m.seed, .slice A m.P.length c, .int .i64 m.most, .slice B m.L.length d]) (t := 29) ?hr ?_; (case hd => rfl); (case hg => rfl); (case hr => first | (go_simp; done) | (go_simp; rfl)); intro g hgn w5 hbox hb; have HG := Aside0.mk hbox; have HB5 := Aside0.mk hb; have HGN := Aside0.mk hgn; have u0 : w5.cell? ⟨g, 0, none⟩ = some (.int .i64 m.k) := blk_cell hbox 0; have uf0 : w5.frozen? ⟨g, 0, none⟩ = false := blk_frozen hbox 0; have u1 : w5.cell? ⟨g, 1, none⟩ = some (.int .u64 m.s) := blk_cell hbox 1; have uf1 : w5.frozen? ⟨g, 1, none⟩ = false := blk_frozen hbox 1; have u2 : w5.cell? ⟨g, 2, none⟩ = some (.int .u64 m.se) := blk_cell hbox 2; have uf2 : w5.frozen? ⟨g, 2, none⟩ = false := blk_frozen hbox 2; have u3 : w5.cell? ⟨g, 3, none⟩ = some (.int .u64 m.a) := blk_cell hbox 3; have uf3 : w5.frozen? ⟨g, 3, none⟩ = false := blk_frozen hbox 3; have u4 : w5.cell? ⟨g, 4, none⟩ = some (.int .u64 m.i) := blk_cell hbox 4; have uf4 : w5.frozen? ⟨g, 4, none⟩ = false := blk_frozen hbox 4; have u5 : w5.cell? ⟨g, 5, none⟩ = some (.int .u64 m.n) := blk_cell hbox 5; have uf5 : w5.frozen? ⟨g, 5, none⟩ = false := blk_frozen hbox 5; have u6 : w5.cell? ⟨g, 6, none⟩ = some (.int .u64 m.c) := blk_cell hbox 6; have uf6 : w5.frozen? ⟨g, 6, none⟩ = false := blk_frozen hbox 6; have u7 : w5.cell? ⟨g, 7, none⟩ = some (.int .i64 m.why) := blk_cell hbox 7; have uf7 : w5.frozen? ⟨g, 7, none⟩ = false := blk_frozen hbox 7; have u8 : w5.cell? ⟨g, 8, none⟩ = some (.int .u64 m.seed) := blk_cell hbox 8; have uf8 : w5.frozen? ⟨g, 8, none⟩ = false := blk_frozen hbox 8; have u9 : w5.cell? ⟨g, 9, none⟩ = some (.slice A m.P.length c) := blk_cell hbox 9; have uf9 : w5.frozen? ⟨g, 9, none⟩ = false := blk_frozen hbox 9; have u10 : w5.cell? ⟨g, 10, none⟩ = some (.int .i64 m.most) := blk_cell hbox 10; have uf10 : w5.frozen? ⟨g, 10, none⟩ = false := blk_frozen hbox 10; have u11 : w5.cell? ⟨g, 11, none⟩ = some (.slice B m.L.length d) := blk_cell hbox 11; have uf11 : w5.frozen? ⟨g, 11, none⟩ = false := blk_frozen hbox 11; clear hbox hb hgn) | (go_at_call 25; (with_reducible refine (msg_letters.calls m.k S _ HS.out).mono ?_); rintro er w12 ⟨rfl, hdr⟩; obtain ⟨nd, rfl⟩ := hdr) | (go_at_call 31; (with_reducible refine (HTP.out _ (pw_below_drewN HB5.out nd)).mono ?_); rintro er w13 ⟨rfl, hb⟩; have HB13 := Aside0.mk hb; have HG13 := Aside0.mk (blk_below (blk_drewN HG.out nd) hb); have ul13 : w13.cell? ⟨g, 11, none⟩ = some (.slice B m.L.length d) := blk_cell HG13.out 11; clear hb) | (go_at_call 31; (with_reducible refine (HTL.out _ (below_step (pw_below_drewN HB5.out nd) HB13.out)).mono ?_); rintro er w14 ⟨rfl, hb⟩; have HB14 := Aside0.mk hb; have HG14 := Aside0.mk (blk_below HG13.out hb); have ul14 : w14.cell? ⟨g, 11, none⟩ = some (.slice B m.L.length d) := blk_cell HG14.out 11; clear hb))
  clear u0 uf0 u1 uf1 u2 uf2 u3 uf3 u4 uf4 u5 uf5 u6 uf6 u7 uf7 u8 uf8 u9 uf9 u10 uf10 u11 uf11 ul13 ul14
  have hbl : Below w.heap.size w (w14.alloc (Obj.cells #[.int .u8 115, .int .u8 101, .int .u8 97, .int .u8 105, .int .u8 110, .int .u8 99, .int .u8 119, .int .u8 106, .int .u8 108] 5 (9, 10))) := below_alloc (below_step (below_step (pw_below_drewN HB5.out nd) HB13.out) HB14.out) _
  have hg9 := blk_alloc HG14.out (Obj.cells #[.int .u8 115, .int .u8 101, .int .u8 97, .int .u8 105, .int .u8 110, .int .u8 99, .int .u8 119, .int .u8 106, .int .u8 108] 5 (9, 10))
  have hcl : ∀ i ch, ([115, 101, 97, 105, 110, 99, 119, 106, 108] : List Int)[i]? = some ch → (w14.alloc (Obj.cells #[.int .u8 115, .int .u8 101, .int .u8 97, .int .u8 105, .int .u8 110, .int .u8 99, .int .u8 119, .int .u8 106, .int .u8 108] 5 (9, 10))).cell? ⟨w14.heap.size, i, none⟩ = some (.int .u8 ch) := fun i ch h => by
    rw [World.cell?_alloc_mark]
    have e : (#[.int .u8 115, .int .u8 101, .int .u8 97, .int .u8 105, .int .u8 110, .int .u8 99, .int .u8 119, .int .u8 106, .int .u8 108] : Array Value)[i]? = (([115, 101, 97, 105, 110, 99, 119, 106, 108] : List Int)[i]?).map (Value.int .u8) := by
      rw [show (#[.int .u8 115, .int .u8 101, .int .u8 97, .int .u8 105, .int .u8 110, .int .u8 99, .int .u8 119, .int .u8 106, .int .u8 108] : Array Value) = (([115, 101, 97, 105, 110, 99, 119, 106, 108] : List Int).map (Value.int .u8)).toArray from rfl, List.getElem?_toArray, List.getElem?_map]
    rw [e, h]; rfl
  obtain ⟨gl, hgl⟩ : ∃ gl, w14.heap.size = gl := ⟨_, rfl⟩
  obtain ⟨wl, hwl⟩ : ∃ wl, w14.alloc (Obj.cells #[.int .u8 115, .int .u8 101, .int .u8 97, .int .u8 105, .int .u8 110, .int .u8 99, .int .u8 119, .int .u8 106, .int .u8 108] 5 (9, 10)) = wl := ⟨_, rfl⟩
  rw [hgl] at hcl
  rw [hwl] at hcl hg9 hbl
  rw [hgl, hwl]
  have HCL := Aside0.mk hcl; have HG9 := Aside0.mk hg9; have HBL := Aside0.mk hbl
  clear hcl hg9 hbl hgl hwl
  go_loopw [49] (fun vi wr => ∃ (i : Nat), vi = .int .i64 i ∧ Aside0 (i ≤ 9) ∧ Aside0 ((([115, 101, 97, 105, 110, 99, 119, 106, 108] : List Int).drop i).all (fun c => (lettersV m.k).contains c || bareV m c) = lk) ∧ Aside0 (Below wl.heap.size wl wr)) (fun vi _ => (9 - intOf vi).toNat)
  case atStart => exact ⟨0, rfl, ⟨by decide⟩, ⟨by rw [List.drop_zero]; exact HLK.out⟩, ⟨Below.refl _ _⟩⟩
  case round =>
    obtain ⟨i, rfl, HI, HA, HW⟩ := hrel
    have l1 := HI.out
    by_cases hlt : i < 9
    · have d3 : decide ((i : Int) < 9) = true := decide_eq_true (by omega)
      have d3' : decide (i < 9) = true := decide_eq_true hlt
      obtain ⟨ch, hc⟩ : ∃ c, ([115, 101, 97, 105, 110, 99, 119, 106, 108] : List Int)[i]? = some c := ⟨_, List.getElem?_eq_getElem (by exact hlt)⟩
      have hmem := List.mem_of_getElem? hc
      have kcc : wr.cell? ⟨gl, i, none⟩ = some (.int .u8 ch) := pw_cell_below HW.out (HCL.out i ch hc)
      have hdr : ([115, 101, 97, 105, 110, 99, 119, 106, 108] : List Int).drop i = ch :: ([115, 101, 97, 105, 110, 99, 119, 106, 108] : List Int).drop (i + 1) := by
        obtain ⟨hi, e⟩ := List.getElem?_eq_some_iff.1 hc
        rw [List.drop_eq_getElem_cons hi, e]
      have ha := HA.out
      rw [hdr, List.all_cons] at ha
      have hsz : S.size ≤ 4 := by rw [HSN.out]; exact letters_len m.k
      have HCT := Aside0.mk (show Calls Try.prog 32 #[.slice (some ⟨wr.heap.size, 0, none⟩) S.size (grownCap wr S.size 0 5), .int .u8 ch] (Lib.bytesWorld wr 5 S) fun e w' => e = .returned (.bool ((lettersV m.k).contains ch)) ∧ Drawn0 (Lib.bytesWorld wr 5 S) w' from by
        have hby := bytes_reads wr 5 S (by omega)
        rw [HSB.out] at hby
        have q := slices_Contains_byte_byte.calls 12 (some ⟨wr.heap.size, 0, none⟩) (grownCap wr S.size 0 5) (lettersV m.k) ch _ (Lib.bytesWorld wr 5 S) (by rw [← HSN.out]; exact Kd.C_of_reads (enc := Value.int .u8) (d := (0 : Int)) (h1 := fun _ => rfl) hby) (by rw [← HSN.out]; exact grownCap_ge _ _ _ _) (contains_k m.k ch hmem)
        rw [← HSN.out] at q
        exact q)
      have HBB := Aside0.mk (show Below wr.heap.size wr (Lib.bytesWorld wr 5 S) from bytes_below (Below.refl _ _) (Nat.le_refl _) 5 S)
      clear hc hdr
      obtain ⟨bc, hbc⟩ : ∃ b, (lettersV m.k).contains ch = b := ⟨_, rfl⟩
      rw [hbc] at HCT ha
      clear hbc
      by_cases hct : bc = true
      · subst hct
        rw [Bool.true_or, Bool.true_and] at ha
        have HA2 := Aside0.mk ha
        clear ha hmem
        go_wp2_with (first | (go_at_call 32; (with_reducible refine HCT.out.mono ?_); rintro er w16 ⟨rfl, hdr⟩; obtain ⟨nd2, rfl⟩ := hdr) | go_in)
        go_roundw
        case rel => exact ⟨i + 1, by go_num, ⟨by omega⟩, HA2, ⟨pw_below_drewN (below_step HW.out HBB.out) nd2⟩⟩
        case measure => simp [intOf]; omega
      obtain rfl : bc = false := by simpa using hct
      rw [Bool.false_or] at ha
      clear hct
      have HBR := Aside0.mk (fun W (hw : Below wl.heap.size wl W) => bare_c W g m A B c d (blk_below HG9.out hw) ch (nine_isL ch hmem))
      obtain ⟨br, hbr⟩ : ∃ b, bareV m ch = b := ⟨_, rfl⟩
      rw [hbr] at HBR ha
      clear hbr
      by_cases hbr : br = true
      · subst hbr
        rw [Bool.true_and] at ha
        have HA2 := Aside0.mk ha
        clear ha hmem
        go_wp2_with (first | (go_at_call 32; (with_reducible refine HCT.out.mono ?_); rintro er w16 ⟨rfl, hdr⟩; obtain ⟨nd2, rfl⟩ := hdr) | (go_at_call 33; (with_reducible refine (HBR.out _ (pw_below_drewN (below_step HW.out HBB.out) nd2)).mono ?_); rintro er w17 ⟨rfl, rfl⟩) | go_in)
        go_roundw
        case rel => exact ⟨i + 1, by go_num, ⟨by omega⟩, HA2, ⟨pw_below_drewN (below_step HW.out HBB.out) nd2⟩⟩
        case measure => simp [intOf]; omega
      obtain rfl : br = false := by simpa using hbr
      rw [Bool.false_and] at ha
      clear hbr
      have HA2 := Aside0.mk ha
      clear ha hmem
      go_wp2_with (first | (go_at_call 32; (with_reducible refine HCT.out.mono ?_); rintro er w16 ⟨rfl, hdr⟩; obtain ⟨nd2, rfl⟩ := hdr) | (go_at_call 33; (with_reducible refine (HBR.out _ (pw_below_drewN (below_step HW.out HBB.out) nd2)).mono ?_); rintro er w17 ⟨rfl, rfl⟩))
      go_ret
      have ha := HA2.out
      subst ha
      exact ⟨rfl, below_step HBL.out (pw_below_drewN (below_step HW.out HBB.out) nd2)⟩
    · obtain rfl : i = 9 := by omega
      have ha : true = lk := HA.out
      have HA2 := Aside0.mk ha
      clear ha
      go_wp2_with fail
      go_ret
      have ha := HA2.out
      subst ha
      exact ⟨rfl, below_step HBL.out HW.out⟩
end Go.Proofs.Ytbfmbjkalldonaa.Msg
