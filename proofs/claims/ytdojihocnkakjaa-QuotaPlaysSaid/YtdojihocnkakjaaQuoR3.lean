/- The document's place, Fill, Take, Give, When; the walks; no condition but those that stand in each. -/
import Derived.Test.YtdojihocnkakjaaQuoR2
namespace Go.Proofs.Ytdojihocnkakjaa.Quo
set_option linter.unusedVariables false
set_option linter.unusedSimpArgs false
open Go.RowKit Go.Proofs.Ytdojihocnkakjaa.PA Go.Proofs.YtdojihocnkakjaaW.PrintWords Go.Proofs.YtdojihocnkakjaaW.PrintLast Go.Proofs.YtdojihocnkakjaaW.PrintMore Go.Proofs.Ytdojihocnkakjaa.Tab Go.Proofs.Ytdojihocnkakjaa.SatMul Go.Proofs.Ytdojihocnkakjaa.Lst
attribute [local go_sem] max2_int min2_int max_two min_two max_three min_three max_four min_four
theorem below_grown0 {W W' : World} (h : W.grownBy W' none) : Below W.heap.size W W' := ⟨h.os, h.tape, h.output, h.size, fun k hk => h.block k hk (by simp)⟩
theorem below_grownN {W W1 W' : World} {v : Value} (hB : Below W.heap.size W W1) (h : W1.grownBy W' v.ownBlock) (hv : v.ownBlock = none ∨ ∃ b, v.ownBlock = some b ∧ W.heap.size ≤ b) : Below W.heap.size W W' :=
  pw_below_grown hB _ hB.size h (fun k hk => by
    rcases hv with hv | ⟨b, hv, hb⟩
    · rw [hv] at hk; cases hk
    · rw [hv] at hk; cases hk; exact hb)
def rplace (k : Int) : List Rb → Nat → Option Nat
  | [], _ => none
  | b :: l, i => if b.s = k then some i else rplace k l (i + 1)
theorem rplace_some {k : Int} : ∀ {l : List Rb} {i j : Nat}, rplace k l i = some j → i ≤ j ∧ ∃ b, l[j - i]? = some b ∧ b.s = k
  | b :: l, i, j, h => by
    rw [rplace] at h
    split at h
    · rename_i hk
      injection h with h
      subst h
      exact ⟨Nat.le_refl _, b, by simp, hk⟩
    · obtain ⟨h1, b', h2, h3⟩ := rplace_some h
      refine ⟨by omega, b', ?_, h3⟩
      rw [show j - i = (j - (i + 1)) + 1 by omega, List.getElem?_cons_succ]
      exact h2
theorem rplace_none {k : Int} : ∀ {l : List Rb} {i : Nat}, rplace k l i = none → ∀ b ∈ l, b.s ≠ k
  | [], _, _, b, hb => by cases hb
  | b :: l, i, h, b', hb => by
    rw [rplace] at h
    split at h
    · cases h
    · rename_i hk
      rcases List.mem_cons.1 hb with rfl | hb
      · exact hk
      · exact rplace_none h b' hb
def pv (o : Option Nat) : Int := match o with | some i => i | none => -1
set_option maxHeartbeats 4000000 in
theorem place_c (g : Nat) (v : Value) (r : RS) (k : Int) (w0 w : World) (hR : IsR w0 w g v r) (hl : r.l.length ≤ 1024) (o : Option Nat) (ho : rplace k r.l 0 = o) :
    Calls Try.prog 29 #[.pointer (some ⟨g, 0, none⟩), .int .u64 k] w fun e w' => e = .returned (.int .i64 (pv o)) ∧ w = w' := by
  have HR := Aside0.mk hR
  have hc4 := hR.c4
  have HO := Aside0.mk ho
  obtain ⟨A, c, rfl, hc, hm⟩ := hR.ls.form
  obtain ⟨i0, hi0, _, hs0, _⟩ := info_parts info66
  clear hR ho
  go_enter Try.func29, Try.ntmps29
  go_wp2_with fail
  go_loop [5] (fun vi => ∃ i : Nat, vi = .int .i64 i ∧ Aside0 (i ≤ r.l.length) ∧ Aside0 (rplace k (r.l.drop i) i = o)) (fun vi => (r.l.length - intOf vi).toNat)
  case atStart => exact ⟨0, rfl, ⟨Nat.zero_le _⟩, HO⟩
  case round =>
    obtain ⟨i, rfl, HI, HQ⟩ := hrel
    have l1 := HI.out
    by_cases hlt : i < r.l.length
    · obtain ⟨b, hb⟩ : ∃ b, r.l[i]? = some b := ⟨_, List.getElem?_eq_getElem hlt⟩
      obtain ⟨gb, rfl, _, _, hcl, _, _⟩ := HR.out.ls.at hb
      have k0 : w.cell? ⟨gb, i * 2, none⟩ = some (.int .u64 b.s) := hcl 0 _ rfl
      have hdr : r.l.drop i = b :: r.l.drop (i + 1) := by
        obtain ⟨hi, e⟩ := List.getElem?_eq_some_iff.1 hb
        rw [List.drop_eq_getElem_cons hi, e]
      have q := HQ.out
      rw [hdr, rplace] at q
      clear hb hcl hdr
      by_cases hk : b.s = k
      · rw [if_pos hk] at q
        have hkb : (b.s == k) = true := by simpa using hk
        subst q
        clear hk
        go_wp2_with fail
        go_ret
        exact ⟨rfl, rfl⟩
      · rw [if_neg hk] at q
        have hkb : (b.s == k) = false := by simpa using hk
        have HQ2 := Aside0.mk q
        clear q hk
        go_wp2_with fail
        go_round
        case rel => exact ⟨i + 1, by go_num, ⟨by omega⟩, HQ2⟩
        case measure => simp [intOf]; omega
    · have q := HQ.out
      rw [List.drop_eq_nil_of_le (by omega)] at q
      have q' : o = none := q.symm
      subst q'
      clear q
      go_wp2_with fail
      go_ret
      exact ⟨rfl, rfl⟩
theorem place_v (g : Nat) (v : Value) (r : RS) (k : Int) (w0 w : World) (hR : IsR w0 w g v r) (hl : r.l.length ≤ 1024) (o : Option Nat) (ho : rplace k r.l 0 = o) (x : Int) (hx : pv o = x) :
    Calls Try.prog 29 #[.pointer (some ⟨g, 0, none⟩), .int .u64 k] w fun e w' => e = .returned (.int .i64 x) ∧ w = w' := by
  have := place_c g v r k w0 w hR hl o ho
  rw [hx] at this; exact this
theorem OkR.later {r : RS} (h : OkR r) (now : Int) : OkR (rlaterV r now) := by
  have b := rd_bd h now
  have hl := rkeep_len r (rd_ r now) r.l
  refine ⟨h.1, h.2, h.3, h.4, h.5, h.6, b.2.2.1, b.2.2.2, fun q hq => ?_, ?_⟩
  · obtain ⟨p, hp, hh⟩ := List.mem_filterMap.1 hq
    split at hh
    · rename_i hlt
      injection hh with hh
      subst hh
      refine ⟨?_, Int.le_of_lt hlt⟩
      have f := h.fills p hp
      have := h.most1
      show 0 ≤ rgrow r _ p.f
      unfold rgrow
      split
      · omega
      · have := Int.mul_nonneg b.1 h.rate1
        unfold mn; split <;> omega
    · cases hh
  · have := h.len
    show ((rkeep r (rd_ r now) r.l).length : Int) ≤ r.room
    omega
def rF (r : RS) (k : Int) : Int := match rplace k r.l 0 with | some i => (r.l.getD i ⟨0, 0⟩).f | none => r.most
theorem rF_bd {r : RS} (h : OkR r) (k : Int) : 0 ≤ rF r k ∧ rF r k ≤ r.most := by
  unfold rF
  cases hp : rplace k r.l 0 with
  | none => have := h.most1; simp only; omega
  | some i =>
    obtain ⟨_, b, hb, _⟩ := rplace_some hp
    rw [Nat.sub_zero] at hb
    have := h.fills b (List.mem_of_getElem? hb)
    simp only [List.getD_eq_getElem?_getD, hb, Option.getD_some]
    exact this
theorem PostR.step {w0 w W W' : World} {g : Nat} {v v1 : Value} {r' : RS} (h : PostR w0 w g v r' W) (hb : Below W.heap.size W W') : PostR w0 w g v r' W' := by
  obtain ⟨v', h1, h2, h3, h4⟩ := h
  exact ⟨v', h1.below hb, below_step h2 hb, KeepBut.trans h3 (KeepBut.of_below hb g _) (.inl rfl), h4⟩
set_option maxHeartbeats 4000000 in
theorem rfill_c (g : Nat) (v : Value) (r : RS) (now k : Int) (w0 w : World) (hR : IsR w0 w g v r) (hB : Below w0.heap.size w0 w) (hO : OkR r) (t : RS) (he : rlaterV r now = t) (f : Int) (hf : rF t k = f) :
    Calls Try.prog 20 #[.pointer (some ⟨g, 0, none⟩), .int .i64 now, .int .u64 k] w fun e w' => e = .returned (.int .i64 f) ∧ PostR w0 w g v t w' := by
  have hO1 := hO.later now
  rw [he] at hO1
  have H1 := Aside0.mk (rlater_c g v r now w0 w hR hB hO t he)
  have HL := Aside0.mk (show t.l.length ≤ 1024 by have := hO1.len; have := hO1.room2; omega)
  obtain ⟨o, ho⟩ : ∃ o, rplace k t.l 0 = o := ⟨_, rfl⟩
  have HPL := Aside0.mk ho
  have hf' := hf
  unfold rF at hf'
  rw [ho] at hf'
  obtain ⟨i0, hi0, _, hs0, _⟩ := info_parts info66
  clear hR hB hO hO1 hf he
  cases o with
  | none =>
    simp only at hf'
    subst hf'
    go_enter Try.func20, Try.ntmps20
    go_wp2_with (first | (go_at_call 18; (with_reducible refine H1.out.mono ?_); rintro e w9 ⟨rfl, v', hp⟩; have HP := Aside0.mk hp; clear hp) | (go_at_call 29; (with_reducible refine (place_v g v' t k w0 _ HP.out.1 HL.out _ HPL.out (-1) rfl).mono ?_); rintro e w9 ⟨rfl, rfl⟩; have hc1 := HP.out.1.c1; have hc4 := HP.out.1.c4))
    go_ret
    exact ⟨rfl, v', HP.out⟩
  | some i =>
    obtain ⟨_, b, hb, _⟩ := rplace_some ho
    rw [Nat.sub_zero] at hb
    simp only [List.getD_eq_getElem?_getD, hb, Option.getD_some] at hf'
    subst hf'
    have hlt : i < t.l.length := (List.getElem?_eq_some_iff.1 hb).1
    have HBB := Aside0.mk hb
    clear hb ho
    go_enter Try.func20, Try.ntmps20
    go_wp2_with (first | (go_at_call 18; (with_reducible refine H1.out.mono ?_); rintro e w9 ⟨rfl, v', hp⟩; have HP := Aside0.mk hp; clear hp) | (go_at_call 29; (with_reducible refine (place_v g v' t k w0 _ HP.out.1 HL.out _ HPL.out (i : Int) rfl).mono ?_); rintro e w9 ⟨rfl, rfl⟩; have hc1 := HP.out.1.c1; have hc4 := HP.out.1.c4; obtain ⟨A, c, rfl, hac, ham⟩ := HP.out.1.ls.form; obtain ⟨gb, rfl, _, _, hcl, hfz, _⟩ := HP.out.1.ls.at HBB.out; have k1 : World.cell? _ ⟨gb, i * 2 + 1, none⟩ = some (.int .i64 b.f) := hcl 1 _ rfl; clear hcl))
    go_ret
    exact ⟨rfl, _, HP.out⟩
end Go.Proofs.Ytdojihocnkakjaa.Quo
