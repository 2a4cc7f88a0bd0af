/- The document's table of bindings: what lies, later, place, Find, Forget, New; the walks; no condition but those that stand in each. -/
import Derived.Test.YtghicenodafbkaaAffM
import Derived.Test.YtghicenodafbkaaLst
namespace Go.Proofs.Ytghicenodafbkaa.Aff
set_option linter.unusedVariables false
set_option linter.unusedSimpArgs false
open Go.RowKit Go.Proofs.Ytghicenodafbkaa.PA Go.Proofs.YtghicenodafbkaaW.PrintWords Go.Proofs.YtghicenodafbkaaW.PrintLast Go.Proofs.YtghicenodafbkaaW.PrintMore Go.Proofs.Ytghicenodafbkaa.Tab Go.Proofs.Ytghicenodafbkaa.Lst
attribute [local go_sem] max2_int min2_int max_two min_two max_three min_three max_four min_four
def encB : En Bk := ⟨fun b => [.int .u64 b.key, .int .u64 b.x, .int .i64 b.y], 3, fun _ => rfl, fun x u hu => by simp at hu; rcases hu with rfl | rfl | rfl <;> rfl, by decide⟩
theorem info68 : (Try.prog.info? 68).map (fun i => (i.zero, i.size, i.bytes)) = some (some (.agg #[.int .u64 0, .int .u64 0, .int .i64 0]), 3, 24) := by kernel_rfl
theorem zeroR (w : World) : (zeroValue 42).run Try.prog w = .ok (.agg #[.int .i64 0, .int .i64 0, .int .i64 0, .slice none 0 0]) w := by kernel_rfl
def rcells (r : TS) (v : Value) : Array Value := #[.int .i64 r.room, .int .i64 r.keep, .int .i64 r.now, v]
def IsR (w0 W : World) (g : Nat) (v : Value) (r : TS) : Prop := W.heap[g]? = some (.cells (rcells r v) 42 (0, 0)) ∧ Ls encB 68 W w0.heap.size v r.l ∧ w0.heap.size ≤ g
section
variable {w0 W W' : World} {g : Nat} {v : Value} {r : TS}
theorem IsR.c0 (h : IsR w0 W g v r) : W.cell? ⟨g, 0, none⟩ = some (.int .i64 r.room) := blk_cell h.1 0
theorem IsR.c1 (h : IsR w0 W g v r) : W.cell? ⟨g, 1, none⟩ = some (.int .i64 r.keep) := blk_cell h.1 1
theorem IsR.c2 (h : IsR w0 W g v r) : W.cell? ⟨g, 2, none⟩ = some (.int .i64 r.now) := blk_cell h.1 2
theorem IsR.c3 (h : IsR w0 W g v r) : W.cell? ⟨g, 3, none⟩ = some v := blk_cell h.1 3
theorem IsR.free (h : IsR w0 W g v r) (k : Nat) : W.frozen? ⟨g, k, none⟩ = false := blk_frozen h.1 k
theorem IsR.ls (h : IsR w0 W g v r) : Ls encB 68 W w0.heap.size v r.l := h.2.1
theorem IsR.ge (h : IsR w0 W g v r) : w0.heap.size ≤ g := h.2.2
theorem IsR.lt (h : IsR w0 W g v r) : g < W.heap.size := blk_lt h.1
theorem IsR.below (h : IsR w0 W g v r) (hb : Below W.heap.size W W') : IsR w0 W' g v r := ⟨blk_below h.1 hb, h.2.1.below hb, h.2.2⟩
theorem IsR.drew (h : IsR w0 W g v r) (n : Nat) : IsR w0 (W.drewN n) g v r := h
theorem IsR.ne (h : IsR w0 W g v r) : some g ≠ v.ownBlock := h.2.1.ne h.1 (by decide)
theorem IsR.tick (h : IsR w0 W g v r) (n : Int) : IsR w0 (W.setCell ⟨g, 2, none⟩ (.int .i64 n)) g v { r with now := n } :=
  ⟨blk_set h.1 2 _, h.2.1.far (p := ⟨g, 2, none⟩) h.ne _, h.2.2⟩
theorem IsR.lay {v' : Value} {l' : List Bk} (h : IsR w0 W g v r) (hl : Ls encB 68 W w0.heap.size v' l') : IsR w0 (W.setCell ⟨g, 3, none⟩ v') g v' { r with l := l' } :=
  ⟨blk_set h.1 3 _, hl.far (p := ⟨g, 3, none⟩) (hl.ne h.1 (by decide)) _, h.2.2⟩
/-- the tables keep out of each other's way -/
theorem IsT.keepR {gt b : Nat} {s : TS} (hT : IsT w0 W gt b s) (h : IsR w0 W g v r) (hk : KeepBut W W' g v.ownBlock) : IsT w0 W' gt b s :=
  hT.keep hk (blk_ne hT.1 h.1 (by decide)) (h.2.1.ne hT.1 (by decide)) (fun e => by have := hT.map.ne h.1; exact this e.symm) (by
    obtain ⟨D, ⟨es, cl, hb, _⟩, _⟩ := hT.map
    exact h.2.1.neMap hb)
theorem IsR.keepT {gt b : Nat} {s : TS} (h : IsR w0 W g v r) (hT : IsT w0 W gt b s) (hk : KeepBut W W' gt (some b)) : IsR w0 W' g v r := by
  have n1 : some b ≠ v.ownBlock := by
    obtain ⟨D, ⟨es, cl, hb, _⟩, _⟩ := hT.map
    exact h.2.1.neMap hb
  exact ⟨hk.blk h.1 (blk_ne h.1 hT.1 (by decide)) (by simpa using hT.map.ne h.1), h.2.1.keep hk (fun e => h.2.1.ne hT.1 (by decide) e.symm) (.inr fun e => n1 e.symm), h.2.2⟩
end
abbrev PostR (w0 w : World) (g : Nat) (v : Value) (r' : TS) (w' : World) : Prop := ∃ v', IsR w0 w' g v' r' ∧ Below w0.heap.size w0 w' ∧ KeepBut w w' g v.ownBlock ∧ (v'.ownBlock = v.ownBlock ∨ v'.ownBlock = none ∨ ∃ b, v'.ownBlock = some b ∧ w.heap.size ≤ b)
theorem keepN {w w1 : World} {g : Nat} (h : KeepBut w w1 g none) (row : Option Nat) : KeepBut w w1 g row := ⟨h.1, fun i hi hg _ => h.2 i hi hg (by simp)⟩
theorem PostR.trans {w0 w W W' : World} {g : Nat} {v v1 : Value} {r2 : TS} (hB : Below w0.heap.size w0 W) (hk : KeepBut w W g v.ownBlock) (ho : v1.ownBlock = v.ownBlock ∨ v1.ownBlock = none ∨ ∃ b, v1.ownBlock = some b ∧ w.heap.size ≤ b) (h : PostR w0 W g v1 r2 W') : PostR w0 w g v r2 W' := by
  obtain ⟨v', h1, h2, h3, h4⟩ := h
  refine ⟨v', h1, h2, ?_, ?_⟩
  · rcases ho with ho | ho | ⟨b, ho, hb⟩
    · exact KeepBut.trans hk (by rw [← ho]; exact h3) (.inl rfl)
    · rw [ho] at h3; exact KeepBut.trans hk (keepN h3 _) (.inl rfl)
    · exact KeepBut.trans hk h3 (.inr ⟨b, ho, hb⟩)
  · rcases h4 with h4 | h4 | ⟨b, h4, hb⟩
    · rw [h4]; exact ho
    · exact .inr (.inl h4)
    · exact .inr (.inr ⟨b, h4, Nat.le_trans hk.1 hb⟩)
theorem below_grown0 {W W' : World} (h : W.grownBy W' none) : Below W.heap.size W W' := ⟨h.os, h.tape, h.output, h.size, fun k hk => h.block k hk (by simp)⟩
theorem below_grownN {W W1 W' : World} {v : Value} (hB : Below W.heap.size W W1) (h : W1.grownBy W' v.ownBlock) (hv : v.ownBlock = none ∨ ∃ b, v.ownBlock = some b ∧ W.heap.size ≤ b) : Below W.heap.size W W' :=
  pw_below_grown hB _ hB.size h (fun k hk => by
    rcases hv with hv | ⟨b, hv, hb⟩
    · rw [hv] at hk; cases hk
    · rw [hv] at hk; cases hk; exact hb)
theorem keep_own {W W' : World} {g : Nat} {v : Value} (h : W.grownBy W' v.ownBlock) : KeepBut W W' g v.ownBlock := KeepBut.of_grown h g
theorem set_own {W : World} {g gb j : Nat} {v : Value} (hv : v.ownBlock = some gb) (u : Value) : KeepBut W (W.setCell ⟨gb, j, none⟩ u) g v.ownBlock :=
  ⟨by simp [World.setCell], fun i hi hg hr => Below.heap_setCell W ⟨gb, j, none⟩ u i (fun e => hr (by rw [hv]; show some i = some gb; rw [e]))⟩
theorem filter_take {p : Bk → Bool} {l : List Bk} {i : Nat} {b : Bk} (h : l[i]? = some b) : (l.take (i + 1)).filter p = (l.take i).filter p ++ (if p b then [b] else []) := by
  obtain ⟨hi, rfl⟩ := List.getElem?_eq_some_iff.1 h
  rw [List.take_succ_eq_append_getElem hi, List.filter_append, List.filter_cons, List.filter_nil]
/-! ### later -/
set_option maxHeartbeats 8000000 in
set_option maxRecDepth 100000 in
theorem rlater_c (g : Nat) (v : Value) (r : TS) (now : Int) (w0 w : World) (hR : IsR w0 w g v r) (hB : Below w0.heap.size w0 w) (hO : Ok r) (r' : TS) (he : laterV r now = r') :
    Calls Try.prog 24 #[.pointer (some ⟨g, 0, none⟩), .int .i64 now] w fun e w' => e = .returned (.tuple #[]) ∧ PostR w0 w g v r' w' := by
  have HR := Aside0.mk hR
  have HB := Aside0.mk hB
  have HO := Aside0.mk hO
  have hc2 := hR.c2
  have hf2 := hR.free 2
  have HGE := Aside0.mk hR.ge
  obtain ⟨T, hT⟩ : ∃ T, r.now = T := ⟨_, rfl⟩
  rw [hT] at hc2
  have HTT := Aside0.mk hT
  have hu68 := Try.underlying68
  obtain ⟨i0, hi0, _, hs0, _⟩ := info_parts info68
  have HE := Aside0.mk he
  clear hR hB hO hT he
  go_enter Try.func24, Try.ntmps24
  go_upto_region 0 with (fail)
  go_cut [15] (fun s15 wx => s15 = .bool (decide (T < now ∧ now ≤ 1099511627776)) ∧ w = wx)
  case first =>
    go_wp2_with fail
    all_goals go_meet
    all_goals exact ⟨by simp; try omega, rfl⟩
  case rest =>
    obtain ⟨rfl, rfl⟩ := hcut
    go_upto_if 15 with (fail)
    go_cut [1] (fun s1 wx => s1 = .int .i64 now ∧ Aside0 (IsR w0 wx g v (laterT r now)) ∧ Aside0 (Below w0.heap.size w0 wx) ∧ Aside0 (KeepBut w wx g none))
    case first =>
      by_cases hq : T < now ∧ now ≤ 1099511627776
      · have e1 : laterT r now = { r with now := now } := tick_same hq.2 (by rw [HTT.out]; exact hq.1)
        rw [decide_eq_true hq]
        obtain ⟨hq0, hq1⟩ := hq
        have E1 := Aside0.mk e1
        clear e1
        go_wp2_with fail
        go_meet
        exact ⟨rfl, ⟨by rw [E1.out]; exact HR.out.tick now⟩, ⟨below_set HB.out HGE.out⟩, ⟨KeepBut.set_ (KeepBut.refl w g none) 2 _⟩⟩
      · have e1 : laterT r now = r := by
          unfold laterT mx
          have := HTT.out
          by_cases h1 : now ≤ 1099511627776
          · rw [if_pos h1]
            have : ¬ r.now < now := by rw [HTT.out]; exact fun h => hq ⟨h, h1⟩
            rw [if_neg this]
          · rw [if_neg h1]
        rw [decide_eq_false hq]
        have E1 := Aside0.mk e1
        clear e1
        go_wp2_with fail
        go_meet
        exact ⟨rfl, ⟨by rw [E1.out]; exact HR.out⟩, HB, ⟨KeepBut.refl w g none⟩⟩
    case rest =>
      obtain ⟨rfl, HR1, HB1, HK1⟩ := hcut
      have el : (laterT r now).l = r.l := by unfold laterT; split <;> rfl
      obtain ⟨t, ht⟩ : ∃ t, laterT r now = t := ⟨_, rfl⟩
      have HE2 := Aside0.mk (show ({ t with l := t.l.filter (fun q => !endB t q) } : TS) = r' from by rw [← HE.out, ← ht]; rfl)
      rw [ht] at HR1 el
      clear ht
      obtain ⟨T1, hT1⟩ : ∃ z, t.now = z := ⟨_, rfl⟩
      have HT1 := Aside0.mk hT1
      obtain ⟨l, hl⟩ : ∃ z, t.l = z := ⟨_, rfl⟩
      rw [hl] at el
      have HLL := Aside0.mk hl
      have HLEN := Aside0.mk (show l.length ≤ 1024 by rw [el]; have := HO.out.len; have := HO.out.room2; omega)
      have HRL := Aside0.mk (show Ls encB 68 wc w0.heap.size v l by rw [← hl]; exact HR1.out.ls)
      obtain ⟨p, hp⟩ : ∃ p : Bk → Bool, (fun q => !endB t q) = p := ⟨_, rfl⟩
      have HPP := Aside0.mk (show ∀ q, p q = decide (T1 < q.y) from by
        intro q
        rw [← hp]
        unfold endB
        dsimp only
        rw [hT1]
        by_cases h : q.y ≤ T1
        · rw [decide_eq_true h, decide_eq_false (by omega)]; rfl
        · rw [decide_eq_false h, decide_eq_true (by omega)]; rfl)
      rw [hl, hp] at HE2
      obtain ⟨A, c, rfl, hAc, hAm⟩ := HRL.out.form
      clear el hT1 hl hp
      go_wp2_with fail
      go_loopw [4, 5] (fun vo vi wr => ∃ (i : Nat), vi = .int .i64 i ∧ Aside0 (i ≤ l.length) ∧ Aside0 (Ls encB 68 wr wc.heap.size vo ((l.take i).filter p)) ∧ Aside0 (Below wc.heap.size wc wr)) (fun _ vi _ => (l.length - intOf vi).toNat)
      case atStart => exact ⟨0, rfl, ⟨Nat.zero_le _⟩, ⟨Ls.nil _ _ _ _⟩, ⟨Below.refl _ _⟩⟩
      case round =>
        obtain ⟨i, rfl, HI, HLS, HBW⟩ := hrel
        obtain ⟨A2, c2, rfl, _, _⟩ := HLS.out.form
        have l1 := HI.out
        have l0 := HLEN.out
        have HRW := Aside0.mk (HR1.out.below HBW.out)
        have hc3 := HRW.out.c3
        have hc2 := HRW.out.c2
        rw [HT1.out] at hc2
        by_cases hlt : i < l.length
        · obtain ⟨b, hb⟩ : ∃ b, l[i]? = some b := ⟨_, List.getElem?_eq_getElem hlt⟩
          have HTK := Aside0.mk (filter_take (p := p) hb)
          obtain ⟨gb, rfl, hg1, hg2, hcl, hfz, _⟩ := (HRL.out.below HBW.out).at hb
          have k0 : wr.cell? ⟨gb, i * 3, none⟩ = some (.int .u64 b.key) := hcl 0 _ rfl
          have k1 : wr.cell? ⟨gb, i * 3 + 1, none⟩ = some (.int .u64 b.x) := hcl 1 _ rfl
          have k2 : wr.cell? ⟨gb, i * 3 + 2, none⟩ = some (.int .i64 b.y) := hcl 2 _ rfl
          have HLB := Aside0.mk (show ((l.take i).filter p).length ≤ 1024 by have := List.length_filter_le p (l.take i); rw [List.length_take] at this; omega)
          have glt := HRW.out.lt
          clear hb hcl hfz
          by_cases hk : T1 < b.y
          · have HN := Aside0.mk (show (l.take (i + 1)).filter p = (l.take i).filter p ++ [b] by rw [HTK.out, HPP.out, decide_eq_true hk, if_pos rfl])
            go_wp2_with fail
            go_quiet (fail)
            have HLS1 := Aside0.mk (HLS.out.drew nq)
            have HBW1 := Aside0.mk (pw_below_drewN HBW.out nq)
            go_wp2_with (first | (at_builtin; refine wpList_push rfl _ _ 40 68 _ 24 rfl Try.underlying40 info68 rfl wc.heap.size _ _ b rfl _ rfl (by simp) HLS1.out HBW1.out.size (by have := HLB.out; omega) (by decide) _ rfl ?_; intro v1 w1 h1 h2 h3; have HP1 := Aside0.mk h1; have HP2 := Aside0.mk h2; clear h1 h2 h3) | go_in)
            go_roundw
            case rel => exact ⟨i + 1, by go_num, ⟨by omega⟩, ⟨by rw [HN.out]; exact HP1.out⟩, ⟨pw_below_grown HBW1.out _ HBW1.out.size HP2.out (fun k hk => (HLS1.out.own k hk).1)⟩⟩
            case measure => simp [intOf]; omega
          · have HN := Aside0.mk (show (l.take (i + 1)).filter p = (l.take i).filter p by rw [HTK.out, HPP.out, decide_eq_false hk]; simp)
            go_wp2_with fail
            go_quiet (fail)
            go_wp2_with fail
            go_roundw
            case rel => exact ⟨i + 1, by go_num, ⟨by omega⟩, ⟨by rw [HN.out]; exact HLS.out.drew _⟩, ⟨pw_below_drewN HBW.out _⟩⟩
            case measure => simp [intOf]; omega
        · have e : l.take i = l := List.take_of_length_le (by omega)
          have hf3 := HRW.out.free 3
          go_wp2_with fail
          first | go_end0 | ((try simp only [Exit.inBlock, Exit.then]); refine bodyPost_ret (results_none rfl _ _ _) rfl ?_)
          have hb2 := below_step HB1.out HBW.out
          refine ⟨rfl, .slice A2 ((l.take i).filter p).length c2, ?_, below_set hb2 HGE.out, KeepBut.set_ ((keepN HK1.out _).trans (KeepBut.of_below HBW.out g _) (.inl rfl)) 3 _, ?_⟩
          · have := HRW.out.lay (HLS.out.lower HB1.out.size)
            rw [e, HE2.out] at this
            rw [e]
            exact this
          · by_cases hv : (Value.slice A2 ((l.take i).filter p).length c2).ownBlock = none
            · exact .inr (.inl hv)
            · obtain ⟨b, hb⟩ := Option.ne_none_iff_exists'.1 hv
              exact .inr (.inr ⟨b, hb, Nat.le_trans HK1.out.1 (HLS.out.own b hb).1⟩)
/-! ### place -/
def rplace (k : Int) : List Bk → Nat → Option Nat
  | [], _ => none
  | b :: l, i => if b.key = k then some i else rplace k l (i + 1)
theorem rplace_some {k : Int} : ∀ {l : List Bk} {i j : Nat}, rplace k l i = some j → i ≤ j ∧ ∃ b, l[j - i]? = some b ∧ b.key = k
  | b :: l, i, j, h => by
    rw [rplace] at h
    split at h
    · rename_i hk
      injection h with h
      subst h
      exact ⟨Nat.le_refl _, b, by simp, hk⟩
    · obtain ⟨h1, b', h2, h3⟩ := rplace_some h
      refine ⟨by omega, b', ?_, h3⟩
      rw [show j - i = (j - (i + 1)) + 1 by omega, List.getElem?_cons_succ]
      exact h2
theorem rplace_none {k : Int} : ∀ {l : List Bk} {i : Nat}, rplace k l i = none → ∀ b ∈ l, b.key ≠ k
  | [], _, _, b, hb => by cases hb
  | b :: l, i, h, b', hb => by
    rw [rplace] at h
    split at h
    · cases h
    · rename_i hk
      rcases List.mem_cons.1 hb with rfl | hb
      · exact hk
      · exact rplace_none h b' hb
def pv (o : Option Nat) : Int := match o with | some i => i | none => -1
set_option maxHeartbeats 4000000 in
theorem place_c (g : Nat) (v : Value) (r : TS) (k : Int) (w0 w : World) (hR : IsR w0 w g v r) (hl : r.l.length ≤ 1024) (o : Option Nat) (ho : rplace k r.l 0 = o) (x : Int) (hx : pv o = x) :
    Calls Try.prog 25 #[.pointer (some ⟨g, 0, none⟩), .int .u64 k] w fun e w' => e = .returned (.int .i64 x) ∧ w = w' := by
  have HR := Aside0.mk hR
  have hc3 := hR.c3
  have HO := Aside0.mk ho
  have HX := Aside0.mk hx
  obtain ⟨A, c, rfl, hc, hm⟩ := hR.ls.form
  obtain ⟨i0, hi0, _, hs0, _⟩ := info_parts info68
  clear hR ho hx
  go_enter Try.func25, Try.ntmps25
  go_wp2_with fail
  go_loop [5] (fun vi => ∃ i : Nat, vi = .int .i64 i ∧ Aside0 (i ≤ r.l.length) ∧ Aside0 (rplace k (r.l.drop i) i = o)) (fun vi => (r.l.length - intOf vi).toNat)
  case atStart => exact ⟨0, rfl, ⟨Nat.zero_le _⟩, HO⟩
  case round =>
    obtain ⟨i, rfl, HI, HQ⟩ := hrel
    have l1 := HI.out
    by_cases hlt : i < r.l.length
    · obtain ⟨b, hb⟩ : ∃ b, r.l[i]? = some b := ⟨_, List.getElem?_eq_getElem hlt⟩
      obtain ⟨gb, rfl, _, _, hcl, _, _⟩ := HR.out.ls.at hb
      have k0 : w.cell? ⟨gb, i * 3, none⟩ = some (.int .u64 b.key) := hcl 0 _ rfl
      have hdr : r.l.drop i = b :: r.l.drop (i + 1) := by
        obtain ⟨hi, e⟩ := List.getElem?_eq_some_iff.1 hb
        rw [List.drop_eq_getElem_cons hi, e]
      have q := HQ.out
      rw [hdr, rplace] at q
      clear hb hcl hdr
      by_cases hk : b.key = k
      · rw [if_pos hk] at q
        have hkb : (b.key == k) = true := by simpa using hk
        subst q
        clear hk
        go_wp2_with fail
        go_ret
        exact ⟨congrArg (fun z : Int => Ending.returned (Value.int .i64 z)) (show ((i : Nat) : Int) = x from HX.out), rfl⟩
      · rw [if_neg hk] at q
        have hkb : (b.key == k) = false := by simpa using hk
        have HQ2 := Aside0.mk q
        clear q hk
        go_wp2_with fail
        go_round
        case rel => exact ⟨i + 1, by go_num, ⟨by omega⟩, HQ2⟩
        case measure => simp [intOf]; omega
    · have q := HQ.out
      rw [List.drop_eq_nil_of_le (by omega)] at q
      have q' : o = none := q.symm
      subst q'
      clear q
      go_wp2_with fail
      go_ret
      exact ⟨congrArg (fun z : Int => Ending.returned (Value.int .i64 z)) (show (-1 : Int) = x from HX.out), rfl⟩
end Go.Proofs.Ytghicenodafbkaa.Aff
