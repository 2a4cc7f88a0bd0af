/- FrameAgain: what is parsed is laid as the same bytes; the walk; no condition but that bytes are bytes. -/
import Derived.Test.YtjpjlloimemcfaaFrAll
import Derived.Test.YtjpjlloimemcfaaProg
import Derived.Test.YtjpjlloimemcfaaLst2
import Derived.Test.YtjpjlloimemcfaaFrmA
import Derived.Test.YtjpjlloimemcfaaPAx12
import Derived.Deep.QuietTactic
import Derived.BigQuiet
import Derived.BigRegion
import Derived.RegionTactic
import Derived.Deep.RegionHeld3
import Derived.Deep.RegionLaw
import Derived.WalkSpells
import Derived.LoopTactic
import Derived.Deep.LoopGhost
import Derived.Shelf.Abstract
import Derived.OwnWalk
namespace Go.Proofs.Ytjpjlloimemcfaa.Frm
set_option linter.unusedVariables false
set_option linter.unusedSimpArgs false
open Go.RowKit Go.Proofs.Ytjpjlloimemcfaa.PA Go.Proofs.YtjpjlloimemcfaaW.PrintWords Go.Proofs.YtjpjlloimemcfaaW.PrintLast Go.Proofs.YtjpjlloimemcfaaW.PrintMore Go.Proofs.Ytjpjlloimemcfaa.Base Go.Proofs.Ytjpjlloimemcfaa.Var Go.Proofs.Ytjpjlloimemcfaa.Lst
attribute [local go_sem] max2_int min2_int max_two min_two max_three min_three max_four min_four
theorem info5 : (Try.prog.info? 5).map (fun i => (i.zero, i.size, i.bytes)) = some (some (.int .u8 0), 1, 1) := by kernel_rfl
theorem C_of_ls {W : World} {b0 : Nat} {A : Option Addr} {n c : Nat} {xs : List Int} (h : Ls encB 5 W b0 (.slice A n c) xs) : n = xs.length ∧ xs.length ≤ c ∧ Kd.C (Kd.int .u8) W A xs.length xs := by
  obtain ⟨A', c', e, hc, _⟩ := h.form
  injection e with e1 e2 e3
  subst e1 e2 e3
  unfold Ls at h
  rw [flat_u8] at h
  exact ⟨rfl, hc, Kd.C_of_reads (own_reads_of' (d := (0 : Int)) h)⟩
theorem flat_ge : ∀ xss : List (List Int), xss.length ≤ ((xss.map layV).flatten).length
  | [] => Nat.le_refl _
  | x :: xss => by
    have := flat_ge xss
    have := lay_len x
    rw [List.map_cons, List.flatten_cons, List.length_append, List.length_cons]
    omega
set_option maxHeartbeats 32000000 in
theorem again_law (A0 : Option Addr) (c0 : Nat) (l : List Int) (w : World) (hb : Kd.C (Kd.int .u8) w A0 l.length l) (hc0 : l.length ≤ c0) (hbs : Bytes l) : Calls Try.prog 5 #[.slice A0 l.length c0] w fun e w' => e = .returned (.bool true) ∧ Below w.heap.size w w' := by
  have HA := Aside0.mk (fun w => garboardlaw04_alive.calls true w alive_all)
  by_cases hlong : 3000 < l.length
  · have d0 : decide ((3000 : Int) < (l.length : Int)) = true := decide_eq_true (by omega)
    have d0' : decide (3000 < l.length) = true := decide_eq_true hlong
    clear hb hc0 hbs hlong
    go_enter Try.func5, Try.ntmps5
    go_wp2_with (first | (go_at_call 9; (with_reducible refine (HA.out _).mono ?_); rintro e w9 ⟨rfl, hb⟩; have HB := Aside0.mk hb; clear hb))
    go_ret
    exact ⟨rfl, HB.out⟩
  · have d0 : decide ((3000 : Int) < (l.length : Int)) = false := decide_eq_false (by omega)
    have d0' : decide (3000 < l.length) = false := decide_eq_false hlong
    rcases ha : allV l l.length 0 with ⟨xss, to_, e0⟩
    have hal := all_lay hbs l.length 0 (Nat.zero_le _)
    rw [ha] at hal
    dsimp only at hal
    obtain ⟨_, hto, hfl, hxs⟩ := hal
    rw [List.drop_zero, Nat.sub_zero] at hfl
    have HALLC := Aside0.mk (all_c A0 c0 l (by omega) hbs hc0 xss to_ e0 ha w hb)
    have HBC := Aside0.mk hb
    have HTO := Aside0.mk hto; have HFL := Aside0.mk hfl; have HXS := Aside0.mk hxs; have HC0 := Aside0.mk hc0
    have HL := Aside0.mk (show l.length ≤ 3000 by omega)
    have HXN := Aside0.mk (show xss.length ≤ 3000 from by have q := flat_ge xss; rw [hfl, List.length_take] at q; omega)
    clear hb hc0 hbs hlong ha hto hfl hxs
    go_enter Try.func5, Try.ntmps5
    go_wp2_with (first | (go_at_call 14; (with_reducible refine HALLC.out.mono ?_); rintro e w9 ⟨vl, rfl, hll, hb9⟩; obtain ⟨A3, c3, rfl, hc3⟩ := hll.form; have HLL := Aside0.mk hll; have HB9 := Aside0.mk hb9; clear hll hb9))
    go_loopw [23, 6] (fun vi vo wr => ∃ (i : Nat), vi = .int .i64 i ∧ Aside0 (i ≤ xss.length) ∧ Aside0 (Ls encB 5 wr w9.heap.size vo (((xss.take i).map layV).flatten)) ∧ Aside0 (Below w9.heap.size w9 wr)) (fun vi _ _ => (xss.length - intOf vi).toNat)
    case atStart => exact ⟨0, rfl, ⟨Nat.zero_le _⟩, ⟨by simpa using Ls.nil encB 5 w9 w9.heap.size⟩, ⟨Below.refl _ _⟩⟩
    case round =>
      obtain ⟨i, rfl, HI, HOUT, HBW⟩ := hrel
      have l1 := HI.out
      have l3 := HXN.out
      by_cases hlt : i < xss.length
      · obtain ⟨x, hx⟩ : ∃ x, xss[i]? = some x := ⟨_, List.getElem?_eq_getElem hlt⟩
        obtain ⟨ss, hs1, hs2, hs3⟩ := HLL.out.below HBW.out
        obtain ⟨s, hs⟩ : ∃ s, ss[i]? = some s := ⟨_, List.getElem?_eq_getElem (by omega)⟩
        have hrow := hs3 i s x hs hx
        obtain ⟨gs, hgA, _, _, hcs, _⟩ := hs1.at hs
        have ks := hcs 0 s.v rfl
        rw [show i * encS.sz + 0 = i from Nat.mul_one i] at ks
        obtain ⟨sn, hsc, hC⟩ := C_of_ls hrow
        unfold Sl.v at ks
        rw [sn] at ks
        subst hgA
        obtain ⟨hxl, hxb⟩ := HXS.out x (List.mem_of_getElem? hx)
        obtain ⟨K, hK⟩ := lay_ev x hxl
        have HLAY := Aside0.mk (frame_Lay.calls K s.A s.c x (layV x) 0 wr hC hsc (hK K (Nat.le_refl K)))
        have hsucc : ((xss.take (i + 1)).map layV).flatten = ((xss.take i).map layV).flatten ++ layV x := by
          obtain ⟨hi, e⟩ := List.getElem?_eq_some_iff.1 hx
          rw [List.take_succ_eq_append_getElem hi, e, List.map_append, List.flatten_append]
          simp
        have HSU := Aside0.mk hsucc
        have HLN := Aside0.mk (show (((xss.take i).map layV).flatten.length + (layV x).length) * 1 ≤ 140737488355328 from by
          have e1 : (xss.map layV).flatten = ((xss.take (i + 1)).map layV).flatten ++ ((xss.drop (i + 1)).map layV).flatten := by rw [← List.flatten_append, ← List.map_append, List.take_append_drop]
          have e2 := congrArg List.length e1
          rw [HFL.out, hsucc, List.length_append, List.length_append, List.length_take] at e2
          have := HL.out
          omega)
        clear hx hs1 hs2 hs3 hs hrow hcs sn hsc hC hxl hxb hK hsucc
        go_upto_region 11 with (first | (go_at_call 10; (with_reducible refine HLAY.out.mono ?_); rintro e w8 ⟨v, rfl, hR, hb8⟩; have HV := Aside0.mk (ls_of hR); have HO8 := Aside0.mk (HOUT.out.below hb8); have HBW8 := Aside0.mk (below_step HBW.out hb8); clear hR hb8))
        have hv := HV.out
        obtain ⟨gv, cv, hvv⟩ : ∃ gv cv, v = .slice (some ⟨gv, 0, none⟩) (layV x).length cv := by
          rcases hv.2 with ⟨_, h0⟩ | ⟨gv, cv, cur, e, _⟩
          · have := lay_len x; omega
          · exact ⟨gv, cv, e⟩
        subst hvv
        go_wp2_with (first | (at_builtin; refine wpList_cat (d := encB) rfl _ _ 22 5 _ 1 rfl Try.underlying22 info5 rfl w9.heap.size u6 _ (layV x) rfl ⟨gv, 0, none⟩ cv rfl (fun j u hu => World.ownsRow.cells hv (g := gv) rfl j u hu) HO8.out HBW8.out.size HLN.out (by decide) ?_; intro v7 w7 h1 h2 h3; have HO2 := Aside0.mk h1; have HBW2 := Aside0.mk (pw_below_grown HBW8.out _ HBW8.out.size h2 (fun k hk => (HO8.out.own k hk).1)); clear h1 h2 h3) | go_in)
        go_roundw
        case rel => exact ⟨i + 1, by go_num, ⟨by omega⟩, ⟨by rw [HSU.out]; exact HO2.out⟩, HBW2⟩
        case measure => simp [intOf]; omega
      · obtain rfl : i = xss.length := by omega
        have hout := HOUT.out
        rw [List.take_length, HFL.out] at hout
        have d1 : decide ((to_ : Int) ≤ (l.length : Int)) = true := decide_eq_true (by have := HTO.out; omega)
        have d2 : decide (to_ ≤ l.length) = true := decide_eq_true HTO.out
        have htc : to_ ≤ c0 := by have := HTO.out; have := HC0.out; omega
        have HBX := Aside0.mk (below_step HB9.out HBW.out)
        obtain ⟨Ao, co, ho, _, _⟩ := hout.form
        subst ho
        have hb0 := Kd.C_below HBC.out HBX.out
        have g0 : (convert 22 9 (.slice Ao (l.take to_).length co)).run Try.prog (World.drew wr) = .ok (.string (strOfNums (l.take to_))) (World.drew wr) := Kd.C_string Try.underlying22 Try.underlying5 Try.underlying9 (Kd.C_drew (C_of_ls hout).2.2)
        have g1 : (convert 22 9 (.slice A0 to_ c0)).run Try.prog (World.drew wr) = .ok (.string (strOfNums (l.take to_))) (World.drew wr) := by
          have q := Kd.C_take hb0 HTO.out
          rw [List.length_take_of_le HTO.out] at q
          exact Kd.C_string Try.underlying22 Try.underlying5 Try.underlying9 (Kd.C_drew q)
        obtain ⟨ns, hns⟩ : ∃ ns, (l.take to_).length = ns := ⟨_, rfl⟩
        rw [hns] at g0
        obtain ⟨sB, hsB⟩ : ∃ sB, strOfNums (l.take to_) = sB := ⟨_, rfl⟩
        rw [hsB] at g0 g1
        have ff : (sB.toList == sB.toList) = true := by simp
        rw [hns]
        clear hout hb0 hsB hns
        go_upto_region 13 with (fail)
        refine start_ (n := 21) (S := fun w' => (convert 22 9 (.slice Ao ns co)).run Try.prog w' = .ok (.string sB) w' ∧ (convert 22 9 (.slice A0 to_ c0)).run Try.prog w' = .ok (.string sB) w') (ds := [18]) #[false, false, false, false, false, false, false, false, false, false, false, false, false, false, false, false, false, false, false, false, false] (by kernel_rfl) rfl rfl ⟨g0, g1⟩ (fun hHeld => ?_)
        refine pure_ (i := 0) (N := some 38) (v := ?_) (a' := ?_) #[true, false, false, false, false, false, false, false, false, false, false, false, false, false, false, false, false, false, false, false, false] rfl rfl (by kernel_rfl) (fun _ _ _ h => h) (Or.inl ⟨by rfl, ?_⟩) ?_ ?_
        rotate_left
        · intro w'
          go_simp
          with_reducible rfl
        rotate_left
        · simp only [Act.put, List.setIfInBounds_toArray, List.set_cons_zero, List.set_cons_succ, i64_w, i32_w]
          rfl
        refine pure_ (i := 1) (N := some 39) (v := ?_) (a' := ?_) #[true, true, false, false, false, false, false, false, false, false, false, false, false, false, false, false, false, false, false, false, false] rfl rfl (by kernel_rfl) (fun _ _ _ h => h) (Or.inl ⟨by rfl, ?_⟩) ?_ ?_
        rotate_left
        · intro w'
          go_simp
          with_reducible rfl
        rotate_left
        · simp only [Act.put, List.setIfInBounds_toArray, List.set_cons_zero, List.set_cons_succ, i64_w, i32_w]
          rfl
        refine pure_ (i := 2) (N := some 40) (v := ?_) (a' := ?_) #[true, true, true, false, false, false, false, false, false, false, false, false, false, false, false, false, false, false, false, false, false] rfl rfl (by kernel_rfl) (fun _ _ _ h => h) (Or.inl ⟨by rfl, ?_⟩) ?_ ?_
        rotate_left
        · intro w'
          go_simp
          with_reducible rfl
        rotate_left
        · simp only [Act.put, List.setIfInBounds_toArray, List.set_cons_zero, List.set_cons_succ, i64_w, i32_w]
          rfl
        refine pure_ (i := 3) (N := some 41) (v := ?_) (a' := ?_) #[true, true, true, true, false, false, false, false, false, false, false, false, false, false, false, false, false, false, false, false, false] rfl rfl (by kernel_rfl) (fun _ _ _ h => h) (Or.inl ⟨by rfl, ?_⟩) ?_ ?_
        rotate_left
        · intro w'
          go_simp
          with_reducible rfl
        rotate_left
        · simp only [Act.put, List.setIfInBounds_toArray, List.set_cons_zero, List.set_cons_succ, i64_w, i32_w]
          rfl
        refine pure_ (i := 4) (N := some 42) (v := ?_) (a' := ?_) #[true, true, true, true, true, false, false, false, false, false, false, false, false, false, false, false, false, false, false, false, false] rfl rfl (by kernel_rfl) (fun _ _ _ h => h) (Or.inl ⟨by rfl, ?_⟩) ?_ ?_
        rotate_left
        · intro w'
          go_simp
          with_reducible rfl
        rotate_left
        · simp only [Act.put, List.setIfInBounds_toArray, List.set_cons_zero, List.set_cons_succ, i64_w, i32_w]
          rfl
        refine pure_ (i := 5) (N := some 43) (v := ?_) (a' := ?_) #[true, true, true, true, true, true, false, false, false, false, false, false, false, false, false, false, false, false, false, false, false] rfl rfl (by kernel_rfl) (fun _ _ _ h => h) (Or.inl ⟨by rfl, ?_⟩) ?_ ?_
        rotate_left
        · intro w'
          go_simp
          with_reducible rfl
        rotate_left
        · simp only [Act.put, List.setIfInBounds_toArray, List.set_cons_zero, List.set_cons_succ, i64_w, i32_w]
          rfl
        refine pure_ (i := 6) (N := some 44) (v := ?_) (a' := ?_) #[true, true, true, true, true, true, true, false, false, false, false, false, false, false, false, false, false, false, false, false, false] rfl rfl (by kernel_rfl) (fun _ _ _ h => h) (Or.inl ⟨by rfl, ?_⟩) ?_ ?_
        rotate_left
        · intro w'
          go_simp
          with_reducible rfl
        rotate_left
        · simp only [Act.put, List.setIfInBounds_toArray, List.set_cons_zero, List.set_cons_succ, i64_w, i32_w]
          rfl
        refine pure_ (i := 7) (N := some 45) (v := ?_) (a' := ?_) #[true, true, true, true, true, true, true, true, false, false, false, false, false, false, false, false, false, false, false, false, false] rfl rfl (by kernel_rfl) (fun _ _ _ h => h) (Or.inl ⟨by rfl, ?_⟩) ?_ ?_
        rotate_left
        · intro w'
          go_simp
          with_reducible rfl
        rotate_left
        · simp only [Act.put, List.setIfInBounds_toArray, List.set_cons_zero, List.set_cons_succ, i64_w, i32_w]
          rfl
        refine pure_ (i := 8) (N := some 46) (v := ?_) (a' := ?_) #[true, true, true, true, true, true, true, true, true, false, false, false, false, false, false, false, false, false, false, false, false] rfl rfl (by kernel_rfl) (fun _ _ _ h => h) (Or.inl ⟨by rfl, ?_⟩) ?_ ?_
        rotate_left
        · intro w'
          go_simp
          with_reducible rfl
        rotate_left
        · simp only [Act.put, List.setIfInBounds_toArray, List.set_cons_zero, List.set_cons_succ, i64_w, i32_w]
          rfl
        refine pure_ (i := 9) (N := some 47) (v := ?_) (a' := ?_) #[true, true, true, true, true, true, true, true, true, true, false, false, false, false, false, false, false, false, false, false, false] rfl rfl (by kernel_rfl) (fun _ _ _ h => h) (Or.inl ⟨by rfl, ?_⟩) ?_ ?_
        rotate_left
        · intro w'
          go_simp
          with_reducible rfl
        rotate_left
        · simp only [Act.put, List.setIfInBounds_toArray, List.set_cons_zero, List.set_cons_succ, i64_w, i32_w]
          rfl
        refine pure_ (i := 11) (N := some 49) (v := ?_) (a' := ?_) #[true, true, true, true, true, true, true, true, true, true, false, true, false, false, false, false, false, false, false, false, false] rfl rfl (by kernel_rfl) (fun _ _ _ h => h) (Or.inl ⟨by rfl, ?_⟩) ?_ ?_
        rotate_left
        · intro w'
          go_simp
          with_reducible rfl
        rotate_left
        · simp only [Act.put, List.setIfInBounds_toArray, List.set_cons_zero, List.set_cons_succ, i64_w, i32_w]
          rfl
        refine pure_ (i := 12) (N := some 50) (v := ?_) (a' := ?_) #[true, true, true, true, true, true, true, true, true, true, false, true, true, false, false, false, false, false, false, false, false] rfl rfl (by kernel_rfl) (fun _ _ _ h => h) (Or.inl ⟨by rfl, ?_⟩) ?_ ?_
        rotate_left
        · intro w'
          go_simp
          with_reducible rfl
        rotate_left
        · simp only [Act.put, List.setIfInBounds_toArray, List.set_cons_zero, List.set_cons_succ, i64_w, i32_w]
          rfl
        refine pure_ (i := 13) (N := some 51) (v := ?_) (a' := ?_) #[true, true, true, true, true, true, true, true, true, true, false, true, true, true, false, false, false, false, false, false, false] rfl rfl (by kernel_rfl) (fun _ _ _ h => h) (Or.inl ⟨by rfl, ?_⟩) ?_ ?_
        rotate_left
        · intro w'
          go_simp
          with_reducible rfl
        rotate_left
        · simp only [Act.put, List.setIfInBounds_toArray, List.set_cons_zero, List.set_cons_succ, i64_w, i32_w]
          rfl
        refine take_ (i := 10) (N := some 48) (v := ?_) (a' := ?_) #[true, true, true, true, true, true, true, true, true, true, true, true, true, true, false, false, false, false, false, false, false] rfl rfl (by kernel_rfl) (fun _ _ _ h => h) (Or.inl ⟨by rfl, ?_⟩) hHeld ?_ ?_
        rotate_left
        · rintro w' ⟨s0, s1⟩
          go_simp
          with_reducible rfl
        rotate_left
        · simp only [Act.put, List.setIfInBounds_toArray, List.set_cons_zero, List.set_cons_succ, i64_w, i32_w]
          rfl
        refine take_ (i := 14) (N := some 52) (v := ?_) (a' := ?_) #[true, true, true, true, true, true, true, true, true, true, true, true, true, true, true, false, false, false, false, false, false] rfl rfl (by kernel_rfl) (fun _ _ _ h => h) (Or.inl ⟨by rfl, ?_⟩) hHeld ?_ ?_
        rotate_left
        · rintro w' ⟨s0, s1⟩
          go_simp
          with_reducible rfl
        rotate_left
        · simp only [Act.put, List.setIfInBounds_toArray, List.set_cons_zero, List.set_cons_succ, i64_w, i32_w]
          rfl
        refine pure_ (i := 15) (N := some 53) (v := ?_) (a' := ?_) #[true, true, true, true, true, true, true, true, true, true, true, true, true, true, true, true, false, false, false, false, false] rfl rfl (by kernel_rfl) (fun _ _ _ h => h) (Or.inl ⟨by rfl, ?_⟩) ?_ ?_
        rotate_left
        · intro w'
          go_simp
          with_reducible rfl
        rotate_left
        · simp only [Act.put, List.setIfInBounds_toArray, List.set_cons_zero, List.set_cons_succ, i64_w, i32_w]
          rfl
        refine pure_ (i := 16) (N := some 54) (v := ?_) (a' := ?_) #[true, true, true, true, true, true, true, true, true, true, true, true, true, true, true, true, true, false, false, false, false] rfl rfl (by kernel_rfl) (fun _ _ _ h => h) (Or.inl ⟨by rfl, ?_⟩) ?_ ?_
        rotate_left
        · intro w'
          go_simp
          with_reducible rfl
        rotate_left
        · simp only [Act.put, List.setIfInBounds_toArray, List.set_cons_zero, List.set_cons_succ, i64_w, i32_w]
          rfl
        refine pure_ (i := 17) (N := some 55) (v := ?_) (a' := ?_) #[true, true, true, true, true, true, true, true, true, true, true, true, true, true, true, true, true, true, false, false, false] rfl rfl (by kernel_rfl) (fun _ _ _ h => h) (Or.inl ⟨by rfl, ?_⟩) ?_ ?_
        rotate_left
        · intro w'
          go_simp
          with_reducible rfl
        rotate_left
        · simp only [Act.put, List.setIfInBounds_toArray, List.set_cons_zero, List.set_cons_succ, i64_w, i32_w]
          rfl
        refine last_ (i := 18) (N := some 56) #[true, true, true, true, true, true, true, true, true, true, true, true, true, true, true, true, true, true, true, false, false] rfl rfl (by kernel_rfl) (by decide) (fun K hK => ?_)
        refine goes_ Try.func9 (by kernel_rfl) rfl #[] (by rfl) rfl rfl (by simp only [List.map_toArray, List.map_nil]) ?_
        with_reducible refine (HA.out (World.drew wr)).mono ?_
        rintro e w8 ⟨rfl, hb⟩
        refine ⟨_, rfl, ?_⟩
        have HZ := Aside0.mk (below_step (below_drew HBX.out) hb)
        clear hb
        refine hK.out _ _ ?_
        clear hK K
        refine norm_ (a' := ?_) ?_ ?_
        rotate_left
        · show Act.put _ (some 56) _ = _
          simp only [Act.put, List.setIfInBounds_toArray, List.set_cons_zero, List.set_cons_succ, i64_w, i32_w]
          rfl
        refine pure_ (i := 19) (N := some 57) (v := ?_) (a' := ?_) #[true, true, true, true, true, true, true, true, true, true, true, true, true, true, true, true, true, true, true, true, false] rfl rfl (by kernel_rfl) (fun _ _ _ h => h) (Or.inl ⟨by rfl, ?_⟩) ?_ ?_
        rotate_left
        · intro w'
          go_simp
          with_reducible rfl
        rotate_left
        · simp only [Act.put, List.setIfInBounds_toArray, List.set_cons_zero, List.set_cons_succ, i64_w, i32_w]
          rfl
        refine pure_ (i := 20) (N := some 2) (v := ?_) (a' := ?_) #[true, true, true, true, true, true, true, true, true, true, true, true, true, true, true, true, true, true, true, true, true] rfl rfl (by kernel_rfl) (fun _ _ _ h => h) (Or.inl ⟨by rfl, ?_⟩) ?_ ?_
        rotate_left
        · intro w'
          go_simp
          with_reducible rfl
        rotate_left
        · simp only [Act.put, List.setIfInBounds_toArray, List.set_cons_zero, List.set_cons_succ, i64_w, i32_w]
          rfl
        refine done_ (by kernel_rfl) ?_
        go_wp2_with fail
        go_ret
        exact ⟨rfl, HZ.out⟩
end Go.Proofs.Ytjpjlloimemcfaa.Frm
