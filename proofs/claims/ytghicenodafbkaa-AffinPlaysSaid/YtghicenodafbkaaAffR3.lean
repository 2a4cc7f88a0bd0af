/- The document's Bind; the walks; no condition but those that stand in each. -/
import Derived.Test.YtghicenodafbkaaAffR2
import Derived.Test.YtghicenodafbkaaAffB
import Derived.Test.YtghicenodafbkaaLst2
namespace Go.Proofs.Ytghicenodafbkaa.Aff
set_option linter.unusedVariables false
set_option linter.unusedSimpArgs false
open Go.RowKit Go.Proofs.Ytghicenodafbkaa.PA Go.Proofs.YtghicenodafbkaaW.PrintWords Go.Proofs.YtghicenodafbkaaW.PrintLast Go.Proofs.YtghicenodafbkaaW.PrintMore Go.Proofs.Ytghicenodafbkaa.Tab Go.Proofs.Ytghicenodafbkaa.Lst
attribute [local go_sem] max2_int min2_int max_two min_two max_three min_three max_four min_four
def sooner (a b : Bk) : Prop := a.y < b.y ∨ (a.y = b.y ∧ a.key < b.key)
theorem append_exec {P : Program} {oi : Oper} {a : Act} {w w1 : World} {v1 vs vx : Value} (s x : Operand) (t : TypeId) (ho : oi.op = .call { callee := .builtin .append, args := #[s, x], argTypes := #[t, t] }) (hs : a.eval s = vs) (hx : a.eval x = vx)
    (hr : (Builtin.append_ #[t, t] oi.type #[vs, vx]).run P w = .ok v1 w1) : (execOp a.eval oi).run P w = .ok (.value v1) w1 := by
  unfold execOp
  simp only [ho, resolve, invoke, builtin, Sem.run_bind, Sem.run_pure, Result.andThen_ok, List.map_toArray, List.map_cons, List.map_nil, hs, hx, hr]
abbrev PostR0 (w0 w : World) (g : Nat) (v v' : Value) (r' : TS) (w' : World) : Prop := IsR w0 w' g v' r' ∧ Below w0.heap.size w0 w' ∧ KeepBut w w' g v.ownBlock ∧ (v'.ownBlock = v.ownBlock ∨ v'.ownBlock = none ∨ ∃ b, v'.ownBlock = some b ∧ w.heap.size ≤ b)
theorem drop_cells {l : List Bk} {W : World} {gb c j m : Nat} {ad : Addr} {u : Value} (h : c = j + 1 ∨ ad = ⟨gb, (j + 1) * 3, none⟩) (hc : l.length ≤ c) (hn : ∀ k : Nat, ∀ j u, ((l.drop k).flatMap encB.enc)[j]? = some u → W.cell? ((⟨gb, k * encB.sz, none⟩ : Addr).add j) = some u)
    (hu : ((l.drop (j + 1)).flatMap encB.enc)[m]? = some u) : W.cell? (ad.add m) = some u := by
  rcases h with e | e
  · rw [List.drop_eq_nil_of_le (by omega)] at hu
    simp at hu
  · subst e; exact hn (j + 1) m u hu
theorem keep_sets {w W : World} {g gb : Nat} {v v' : Value} (hk : KeepBut w W g v.ownBlock) (ho : v'.ownBlock = v.ownBlock ∨ v'.ownBlock = none ∨ ∃ b, v'.ownBlock = some b ∧ w.heap.size ≤ b) (hv : v'.ownBlock = some gb) (j : Nat) (u : Value) : KeepBut w (W.setCell ⟨gb, j, none⟩ u) g v.ownBlock := by
  rcases ho with q | q | ⟨b', q, q'⟩
  · exact KeepBut.trans hk (by rw [← q]; exact set_own hv _) (.inl rfl)
  · rw [hv] at q; cases q
  · rw [hv] at q
    cases q
    exact keep_far hk (p := ⟨gb, j, none⟩) q' _
set_option maxHeartbeats 8000000 in
theorem rbind_set (g : Nat) (v : Value) (r : TS) (now k rp : Int) (w0 w : World) (hR : IsR w0 w g v r) (hB : Below w0.heap.size w0 w) (hO : Ok r) (t : TS) (ht : laterV r now = t) (i : Nat) (ho : rplace k t.l 0 = some i) :
    Calls Try.prog 16 #[.pointer (some ⟨g, 0, none⟩), .int .i64 now, .int .u64 k, .int .u64 rp] w fun e w' => e = .returned (.tuple #[]) ∧ PostR w0 w g v { t with l := t.l.set i ⟨k, rp, t.now + t.keep⟩ } w' := by
  have hO1 := hO.later now
  have H1 := Aside0.mk (rlater_c g v r now w0 w hR hB hO t ht)
  rw [ht] at hO1
  have HL := Aside0.mk (show t.l.length ≤ 1024 by have := hO1.len; have := hO1.room2; omega)
  have HPL := Aside0.mk ho
  obtain ⟨i0, hi0, _, hs0, _⟩ := info_parts info68
  have HGE := Aside0.mk hR.ge
  have n1 := hO1.now1; have n2 := hO1.now2; have kp1 := hO1.keep1; have kp2 := hO1.keep2
  have hu68 := Try.underlying68
  clear hR hB hO hO1 ht
  obtain ⟨_, b, hb, hbk⟩ := rplace_some ho
  rw [Nat.sub_zero] at hb
  have hlt : i < t.l.length := (List.getElem?_eq_some_iff.1 hb).1
  have HBB := Aside0.mk hb
  obtain ⟨nw, hnw⟩ : ∃ z, t.now = z := ⟨_, rfl⟩
  obtain ⟨kp, hkp⟩ : ∃ z, t.keep = z := ⟨_, rfl⟩
  rw [hnw] at n1 n2
  rw [hkp] at kp1 kp2
  have HNW := Aside0.mk hnw; have HKP := Aside0.mk hkp
  have e1 : IntKind.i64.wrap (nw + kp) = nw + kp := by rw [i64_w]; exact Base.w64 (by omega) (by omega)
  clear hb hbk ho hnw hkp
  go_enter Try.func16, Try.ntmps16
  go_upto_region 1 with (first | (go_at_call 24; (with_reducible refine H1.out.mono ?_); rintro e w9 ⟨rfl, v', hp⟩; have HP := Aside0.mk hp; clear hp))
  have hc2 := HP.out.1.c2; have hc1 := HP.out.1.c1; have glt := HP.out.1.lt
  rw [HNW.out] at hc2; rw [HKP.out] at hc1
  go_region
  obtain ⟨wb, hwb⟩ : ∃ wb, (w9.alloc (.cells #[.int .u64 k, .int .u64 rp, .int .i64 (nw + kp)] 68)).drew = wb := ⟨_, rfl⟩
  have bel := below_drew1 (below_alloc (Below.refl w9.heap.size w9) (.cells #[.int .u64 k, .int .u64 rp, .int .i64 (nw + kp)] 68))
  have hs : (w9.alloc (.cells #[.int .u64 k, .int .u64 rp, .int .i64 (nw + kp)] 68)).drew.heap[w9.heap.size]? = some (.cells #[.int .u64 k, .int .u64 rp, .int .i64 (nw + kp)] 68 (0, 0)) := blk_drew (blk_new w9 (.cells #[.int .u64 k, .int .u64 rp, .int .i64 (nw + kp)] 68 (0, 0)))
  rw [hwb] at bel hs
  rw [hwb]
  have HS := Aside0.mk hs
  have HP9 := HP; clear HP
  have HP := Aside0.mk (show PostR0 w0 w g v v' t wb from ⟨HP9.out.1.below bel, below_step HP9.out.2.1 bel, KeepBut.trans HP9.out.2.2.1 (KeepBut.of_below bel g _) (.inl rfl), HP9.out.2.2.2⟩)
  have HSN := Aside0.mk (show w.heap.size ≤ w9.heap.size from HP9.out.2.2.1.1)
  have HSO := Aside0.mk (show some w9.heap.size ≠ v'.ownBlock from fun e => absurd (HP9.out.1.ls.own _ e.symm).2.1 (Nat.lt_irrefl _))
  clear HP9 hc2 hc1 glt bel hs hwb
  have hc3 := HP.out.1.c3
  generalize w9.heap.size = sb at HS HSN HSO ⊢
  go_upto_region 4 with (first | (go_at_call 25; (with_reducible refine (place_c g v' t k w0 _ HP.out.1 HL.out _ HPL.out (i : Int) rfl).mono ?_); rintro e w9 ⟨rfl, rfl⟩))
  obtain ⟨A, c, rfl, hac, ham⟩ := HP.out.1.ls.form
  obtain ⟨gb, rfl, hgb, _, hcl, hfz, _⟩ := HP.out.1.ls.at HBB.out
  have k0 : World.cell? _ ⟨gb, i * 3, none⟩ = some (.int .u64 b.key) := hcl 0 _ rfl
  have k1 : World.cell? _ ⟨gb, i * 3 + 1, none⟩ = some (.int .u64 b.x) := hcl 1 _ rfl
  have k2 : World.cell? _ ⟨gb, i * 3 + 2, none⟩ = some (.int .i64 b.y) := hcl 2 _ rfl
  have f0 := hfz (i * 3); have f1 := hfz (i * 3 + 1); have f2 := hfz (i * 3 + 2)
  have s0 := blk_cell HS.out 0; have s1 := blk_cell HS.out 1; have s2 := blk_cell HS.out 2
  clear hcl hfz
  go_region
  go_wp2_with fail
  first | go_end0 | ((try simp only [Exit.inBlock, Exit.then]); refine bodyPost_ret (results_none rfl _ _ _) rfl ?_)
  have hv : (Value.slice (some ⟨gb, 0, none⟩) t.l.length c).ownBlock = some gb := rfl
  have hne : g ≠ gb := by have := HP.out.1.ne; rw [hv] at this; simpa using this
  have x1 : (t.l.set i ⟨k, b.x, b.y⟩)[i]? = some ⟨k, b.x, b.y⟩ := List.getElem?_set_self hlt
  have x2 : (t.l.set i ⟨k, rp, b.y⟩)[i]? = some ⟨k, rp, b.y⟩ := List.getElem?_set_self hlt
  have q1 := HP.out.1.ls.put (u := .int .u64 k) (x' := ⟨k, b.x, b.y⟩) (j := 0) HBB.out (by decide) rfl
  have q2 := q1.put (u := .int .u64 rp) (x' := ⟨k, rp, b.y⟩) (j := 1) x1 (by decide) rfl
  rw [List.set_set] at q2
  have q3 := q2.put (u := .int .i64 (nw + kp)) (x' := ⟨k, rp, nw + kp⟩) (j := 2) x2 (by decide) rfl
  rw [List.set_set] at q3
  have z1 := HNW.out; have z2 := HKP.out
  subst z1 z2
  refine ⟨rfl, .slice (some ⟨gb, 0, none⟩) t.l.length c, ⟨blk_drew (blk_far (blk_far (blk_far HP.out.1.1 (p := ⟨gb, i * 3, none⟩) hne _) (p := ⟨gb, i * 3 + 1, none⟩) hne _) (p := ⟨gb, i * 3 + 2, none⟩) hne _), q3, HGE.out⟩, below_drew (below_set (below_set (below_set HP.out.2.1 hgb) hgb) hgb), keep_drew (keep_sets (keep_sets (keep_sets HP.out.2.2.1 HP.out.2.2.2 hv _ _) HP.out.2.2.2 hv _ _) HP.out.2.2.2 hv _ _), HP.out.2.2.2⟩
set_option maxHeartbeats 16000000 in
set_option maxRecDepth 100000 in
theorem rbind_add (g : Nat) (v : Value) (r : TS) (now k rp : Int) (w0 w : World) (hR : IsR w0 w g v r) (hB : Below w0.heap.size w0 w) (hO : Ok r) (t : TS) (ht : laterV r now = t) (ho : rplace k t.l 0 = none) (hroom : (t.l.length : Int) < t.room) :
    Calls Try.prog 16 #[.pointer (some ⟨g, 0, none⟩), .int .i64 now, .int .u64 k, .int .u64 rp] w fun e w' => e = .returned (.tuple #[]) ∧ PostR w0 w g v { t with l := t.l ++ [⟨k, rp, t.now + t.keep⟩] } w' := by
  have hO1 := hO.later now
  have H1 := Aside0.mk (rlater_c g v r now w0 w hR hB hO t ht)
  rw [ht] at hO1
  have HL := Aside0.mk (show t.l.length ≤ 1024 by have := hO1.len; have := hO1.room2; omega)
  have HPL := Aside0.mk ho
  obtain ⟨i0, hi0, _, hs0, _⟩ := info_parts info68
  have HGE := Aside0.mk hR.ge
  have n1 := hO1.now1; have n2 := hO1.now2; have kp1 := hO1.keep1; have kp2 := hO1.keep2
  have hu68 := Try.underlying68
  clear hR hB hO hO1 ht
  obtain ⟨nw, hnw⟩ : ∃ z, t.now = z := ⟨_, rfl⟩
  obtain ⟨kp, hkp⟩ : ∃ z, t.keep = z := ⟨_, rfl⟩
  obtain ⟨room, hrm⟩ : ∃ z, t.room = z := ⟨_, rfl⟩
  rw [hnw] at n1 n2
  rw [hkp] at kp1 kp2
  rw [hrm] at hroom
  have HNW := Aside0.mk hnw; have HKP := Aside0.mk hkp; have HRM := Aside0.mk hrm
  have e1 : IntKind.i64.wrap (nw + kp) = nw + kp := by rw [i64_w]; exact Base.w64 (by omega) (by omega)
  have hlt : decide (room ≤ (t.l.length : Int)) = false := by simp; omega
  have HLN := HL
  clear ho hnw hkp hrm hroom
  go_enter Try.func16, Try.ntmps16
  go_upto_region 1 with (first | (go_at_call 24; (with_reducible refine H1.out.mono ?_); rintro e w9 ⟨rfl, v', hp⟩; have HP := Aside0.mk hp; clear hp))
  have hc2 := HP.out.1.c2; have hc1 := HP.out.1.c1; have glt := HP.out.1.lt
  rw [HNW.out] at hc2; rw [HKP.out] at hc1
  go_region
  obtain ⟨wb, hwb⟩ : ∃ wb, (w9.alloc (.cells #[.int .u64 k, .int .u64 rp, .int .i64 (nw + kp)] 68)).drew = wb := ⟨_, rfl⟩
  have bel := below_drew1 (below_alloc (Below.refl w9.heap.size w9) (.cells #[.int .u64 k, .int .u64 rp, .int .i64 (nw + kp)] 68))
  have hs : (w9.alloc (.cells #[.int .u64 k, .int .u64 rp, .int .i64 (nw + kp)] 68)).drew.heap[w9.heap.size]? = some (.cells #[.int .u64 k, .int .u64 rp, .int .i64 (nw + kp)] 68 (0, 0)) := blk_drew (blk_new w9 (.cells #[.int .u64 k, .int .u64 rp, .int .i64 (nw + kp)] 68 (0, 0)))
  rw [hwb] at bel hs
  rw [hwb]
  have HS := Aside0.mk hs
  have HP9 := HP; clear HP
  have HP := Aside0.mk (show PostR0 w0 w g v v' t wb from ⟨HP9.out.1.below bel, below_step HP9.out.2.1 bel, KeepBut.trans HP9.out.2.2.1 (KeepBut.of_below bel g _) (.inl rfl), HP9.out.2.2.2⟩)
  have HSN := Aside0.mk (show w.heap.size ≤ w9.heap.size from HP9.out.2.2.1.1)
  have HSO := Aside0.mk (show some w9.heap.size ≠ v'.ownBlock from fun e => absurd (HP9.out.1.ls.own _ e.symm).2.1 (Nat.lt_irrefl _))
  clear HP9 hc2 hc1 glt bel hs hwb
  have hc3 := HP.out.1.c3
  generalize w9.heap.size = sb at HS HSN HSO ⊢
  go_upto_region 5 with (first | (go_at_call 25; (with_reducible refine (place_c g v' t k w0 _ HP.out.1 HL.out _ HPL.out (-1) rfl).mono ?_); rintro e w9 ⟨rfl, rfl⟩))
  have hc0 := HP.out.1.c0
  rw [HRM.out] at hc0
  obtain ⟨A, c, rfl, hac, ham⟩ := HP.out.1.ls.form
  go_quiet (fail)
  go_upto_region 13 with (fail)
  have HP9 := HP; clear HP
  have HP := Aside0.mk (show PostR0 w0 w g v _ t (World.drew (World.drewN wb nq)) from ⟨(HP9.out.1.drew nq).drew 1, below_drew (pw_below_drewN HP9.out.2.1 _), keep_drew (keep_drewN HP9.out.2.2.1 _), HP9.out.2.2.2⟩)
  have HS9 := HS; clear HS
  have HS := Aside0.mk (show (World.drew (World.drewN wb nq)).heap[sb]? = some (.cells #[.int .u64 k, .int .u64 rp, .int .i64 (nw + kp)] 68 (0, 0)) from blk_drew (blk_drewN HS9.out nq))
  clear HP9 HS9 hc3 hc0
  generalize World.drewN wb nq = wa at HP HS ⊢
  have c3d := HP.out.1.c3
  have s0 := blk_cell HS.out 0; have s1 := blk_cell HS.out 1; have s2 := blk_cell HS.out 2
  have HLS := Aside0.mk HP.out.1.ls
  refine start_ (n := 12) (S := fun w' => w'.cell? ⟨g, 3, none⟩ = some (.slice A (t.l).length c) ∧ w'.cell? ⟨sb, 0, none⟩ = some (.int .u64 k) ∧ w'.cell? ⟨sb, 1, none⟩ = some (.int .u64 rp) ∧ w'.cell? ⟨sb, 2, none⟩ = some (.int .i64 (nw + kp))) (ds := [8, 11]) #[false, false, false, false, false, false, false, false, false, false, false, false] (by kernel_rfl) rfl rfl ⟨c3d, s0, s1, s2⟩ (fun hHeld => ?_)
  refine pure_ (i := 0) (N := some 132) (v := ?_) (a' := ?_) #[true, false, false, false, false, false, false, false, false, false, false, false] rfl rfl (by kernel_rfl) (fun _ _ _ h => h) (Or.inl ⟨by rfl, ?_⟩) ?_ ?_
  rotate_left
  · intro w'
    go_simp
    with_reducible rfl
  rotate_left
  · simp only [Act.put, List.setIfInBounds_toArray, List.set_cons_zero, List.set_cons_succ, i64_w, i32_w]
    rfl
  refine pure_ (i := 1) (N := some 133) (v := ?_) (a' := ?_) #[true, true, false, false, false, false, false, false, false, false, false, false] rfl rfl (by kernel_rfl) (fun _ _ _ h => h) (Or.inl ⟨by rfl, ?_⟩) ?_ ?_
  rotate_left
  · intro w'
    go_simp
    with_reducible rfl
  rotate_left
  · simp only [Act.put, List.setIfInBounds_toArray, List.set_cons_zero, List.set_cons_succ, i64_w, i32_w]
    rfl
  refine pure_ (i := 2) (N := some 134) (v := ?_) (a' := ?_) #[true, true, true, false, false, false, false, false, false, false, false, false] rfl rfl (by kernel_rfl) (fun _ _ _ h => h) (Or.inl ⟨by rfl, ?_⟩) ?_ ?_
  rotate_left
  · intro w'
    go_simp
    with_reducible rfl
  rotate_left
  · simp only [Act.put, List.setIfInBounds_toArray, List.set_cons_zero, List.set_cons_succ, i64_w, i32_w]
    rfl
  refine pure_ (i := 3) (N := some 135) (v := ?_) (a' := ?_) #[true, true, true, true, false, false, false, false, false, false, false, false] rfl rfl (by kernel_rfl) (fun _ _ _ h => h) (Or.inl ⟨by rfl, ?_⟩) ?_ ?_
  rotate_left
  · intro w'
    go_simp
    with_reducible rfl
  rotate_left
  · simp only [Act.put, List.setIfInBounds_toArray, List.set_cons_zero, List.set_cons_succ, i64_w, i32_w]
    rfl
  refine take_ (i := 4) (N := some 136) (v := ?_) (a' := ?_) #[true, true, true, true, true, false, false, false, false, false, false, false] rfl rfl (by kernel_rfl) (fun _ _ _ h => h) (Or.inl ⟨by rfl, ?_⟩) hHeld ?_ ?_
  rotate_left
  · rintro w' ⟨s0, s1, s2, s3⟩
    go_simp
    with_reducible rfl
  rotate_left
  · simp only [Act.put, List.setIfInBounds_toArray, List.set_cons_zero, List.set_cons_succ, i64_w, i32_w]
    rfl
  refine take_ (i := 6) (N := some 138) (v := ?_) (a' := ?_) #[true, true, true, true, true, false, true, false, false, false, false, false] rfl rfl (by kernel_rfl) (fun _ _ _ h => h) (Or.inl ⟨by rfl, ?_⟩) hHeld ?_ ?_
  rotate_left
  · rintro w' ⟨s0, s1, s2, s3⟩
    go_simp
    with_reducible rfl
  rotate_left
  · simp only [Act.put, List.setIfInBounds_toArray, List.set_cons_zero, List.set_cons_succ, i64_w, i32_w]
    rfl
  refine join_ (σ := Nat × Value) 4 #[true, true, true, true, true, true, true, true, false, false, false, false] (fun s => [(137, s.2), (139, .slice (some ⟨s.1, 0, none⟩) 1 1)]) (fun s w' => Ls encB 68 w' (World.drew wa).heap.size s.2 (t.l) ∧ w'.heap[s.1]? = some (.cells #[.int .u64 k, .int .u64 rp, .int .i64 (nw + kp)] 68 (0, 0)) ∧ Below (World.drew wa).heap.size (World.drew wa) w' ∧ (s.2.ownBlock = none ∨ ∃ b, s.2.ownBlock = some b ∧ (World.drew wa).heap.size ≤ b)) ?_ ?_
  rotate_left
  · intro hCont
    refine two_ (i := 5) (j := 7) (Ni := some 137) (Nj := some 139) #[true, true, true, true, true, true, true, false, false, false, false, false] #[true, true, true, true, true, false, true, true, false, false, false, false] rfl rfl rfl rfl (by kernel_rfl) (by decide) (by decide) (fun K hK => ?_) (fun K hK => ?_)
    · skip
      obtain ⟨v1, w1, hr1, l1, g1, o1⟩ := copy_run (P := Try.prog) 40 40 68 _ 24 Try.underlying40 info68 rfl w0.heap.size (.slice A (t.l).length c) (t.l) HLS.out (by have := HLN.out; omega) (by decide)
      refine value_ (w1 := w1) (v := v1) (by rfl) rfl (append_exec _ _ 40 rfl rfl rfl hr1) ?_
      have b1 := below_grown0 g1
      refine hK.out _ _ ⟨pw_cell_below b1 c3d, pw_cell_below b1 s0, pw_cell_below b1 s1, pw_cell_below b1 s2⟩ (fun hHeld => ?_)
      clear hK K
      refine norm_ (a' := ?_) ?_ ?_
      rotate_left
      · show Act.put _ (some 137) _ = _
        simp only [Act.put, List.setIfInBounds_toArray, List.set_cons_zero, List.set_cons_succ, i64_w, i32_w]
        rfl
      refine one_ (i := 7) (N := some 139) #[true, true, true, true, true, true, true, true, false, false, false, false] rfl rfl (by kernel_rfl) (by decide) (fun K hK => ?_)
      have b2 := below_step b1 (below_alloc (Below.refl w1.heap.size w1) (.cells #[.int .u64 k, .int .u64 rp, .int .i64 (nw + kp)] 68))
      have hn1 : (w1.alloc (.cells #[.int .u64 k, .int .u64 rp, .int .i64 (nw + kp)] 68)).heap[w1.heap.size]? = some (.cells #[.int .u64 k, .int .u64 rp, .int .i64 (nw + kp)] 68 (0, 0)) := blk_new _ _
      have l2 := l1.below (below_alloc (Below.refl w1.heap.size w1) (.cells #[.int .u64 k, .int .u64 rp, .int .i64 (nw + kp)] 68))
      refine value_ (w1 := ?_) (v := ?_) (by rfl) rfl ?_ ?_
      rotate_left 2
      · go_simp
        constructor
        · rfl
        · rfl
      refine hK.out _ _ ⟨pw_cell_below b2 c3d, pw_cell_below b2 s0, pw_cell_below b2 s1, pw_cell_below b2 s2⟩ (fun hHeld => ?_)
      clear hK K
      refine norm_ (a' := ?_) ?_ ?_
      rotate_left
      · show Act.put _ (some 139) _ = _
        simp only [Act.put, List.setIfInBounds_toArray, List.set_cons_zero, List.set_cons_succ, i64_w, i32_w]
        rfl
      exact norm_ (by first | (simp only [putAll, Act.put, List.setIfInBounds_toArray, List.set_cons_zero, List.set_cons_succ]; done) | (simp only [putAll, Act.put, List.setIfInBounds_toArray, List.set_cons_zero, List.set_cons_succ]; rfl)) (hCont (w1.heap.size, v1) _ ⟨l2, hn1, b2, o1.imp id fun e => ⟨_, e, Nat.le_refl _⟩⟩)
    · skip
      have b1 := below_alloc (Below.refl (World.drew wa).heap.size (World.drew wa)) (.cells #[.int .u64 k, .int .u64 rp, .int .i64 (nw + kp)] 68)
      have hn1 : ((World.drew wa).alloc (.cells #[.int .u64 k, .int .u64 rp, .int .i64 (nw + kp)] 68)).heap[(World.drew wa).heap.size]? = some (.cells #[.int .u64 k, .int .u64 rp, .int .i64 (nw + kp)] 68 (0, 0)) := blk_new _ _
      refine value_ (w1 := ?_) (v := ?_) (by rfl) rfl ?_ ?_
      rotate_left 2
      · go_simp
        constructor
        · rfl
        · rfl
      refine hK.out _ _ ⟨pw_cell_below b1 c3d, pw_cell_below b1 s0, pw_cell_below b1 s1, pw_cell_below b1 s2⟩ (fun hHeld => ?_)
      clear hK K
      refine norm_ (a' := ?_) ?_ ?_
      rotate_left
      · show Act.put _ (some 139) _ = _
        simp only [Act.put, List.setIfInBounds_toArray, List.set_cons_zero, List.set_cons_succ, i64_w, i32_w]
        rfl
      refine one_ (i := 5) (N := some 137) #[true, true, true, true, true, true, true, true, false, false, false, false] rfl rfl (by kernel_rfl) (by decide) (fun K hK => ?_)
      obtain ⟨v1, w1, hr1, l2, g1, o1⟩ := copy_run (P := Try.prog) 40 40 68 _ 24 Try.underlying40 info68 rfl w0.heap.size (.slice A (t.l).length c) (t.l) (HLS.out.below b1) (by have := HLN.out; omega) (by decide)
      refine value_ (w1 := w1) (v := v1) (by rfl) rfl (append_exec _ _ 40 rfl rfl rfl hr1) ?_
      have b2 := below_step b1 (below_grown0 g1)
      have hn2 := blk_grown hn1 g1 (by simp)
      refine hK.out _ _ ⟨pw_cell_below b2 c3d, pw_cell_below b2 s0, pw_cell_below b2 s1, pw_cell_below b2 s2⟩ (fun hHeld => ?_)
      clear hK K
      refine norm_ (a' := ?_) ?_ ?_
      rotate_left
      · show Act.put _ (some 137) _ = _
        simp only [Act.put, List.setIfInBounds_toArray, List.set_cons_zero, List.set_cons_succ, i64_w, i32_w]
        rfl
      exact norm_ (by first | (simp only [putAll, Act.put, List.setIfInBounds_toArray, List.set_cons_zero, List.set_cons_succ]; done) | (simp only [putAll, Act.put, List.setIfInBounds_toArray, List.set_cons_zero, List.set_cons_succ]; rfl)) (hCont ((World.drew wa).heap.size, v1) _ ⟨l2.lower b1.size, hn2, b2, o1.imp id fun e => ⟨_, e, b1.size⟩⟩)
  rintro ⟨nb, v1⟩ w1 ⟨l2, hn2, b2, o1⟩
  dsimp only at l2 hn2 o1 ⊢
  have hHeld : w1.cell? ⟨g, 3, none⟩ = some (.slice A (t.l).length c) ∧ w1.cell? ⟨sb, 0, none⟩ = some (.int .u64 k) ∧ w1.cell? ⟨sb, 1, none⟩ = some (.int .u64 rp) ∧ w1.cell? ⟨sb, 2, none⟩ = some (.int .i64 (nw + kp)) := ⟨pw_cell_below b2 c3d, pw_cell_below b2 s0, pw_cell_below b2 s1, pw_cell_below b2 s2⟩
  refine norm_ (a' := ?_) ?_ ?_
  rotate_left
  · simp only [putAll, Act.put, List.setIfInBounds_toArray, List.set_cons_zero, List.set_cons_succ]
    rfl
  refine last_ (i := 8) (N := some 140) #[true, true, true, true, true, true, true, true, true, false, false, false] rfl rfl (by kernel_rfl) (by decide) (fun K hK => ?_)
  obtain ⟨v2, w2, hr2, l3, g2, o2⟩ := cat_run (d := encB) (P := Try.prog) (W := w1) 40 40 68 _ 24 Try.underlying40 info68 rfl _ v1 (t.l) [⟨k, rp, nw + kp⟩] ⟨nb, 0, none⟩ 1 (fun j u hu => by rw [add_plain]; refine (blk_cell hn2 j).trans ?_; rw [List.getElem?_toArray]; exact hu) l2 b2.size (by have := HLN.out; simp; omega) (by decide)
  obtain ⟨A2, c2, rfl, _, _⟩ := l3.form
  refine value_ (w1 := w2) (by rfl) rfl (append_exec _ _ 40 rfl rfl rfl hr2) ?_
  have b3 := below_grownN b2 g2 o1
  have c34 := pw_cell_below b3 c3d
  have f34 := (HP.out.1.below b3).free 3
  refine hK.out _ _ ?_
  clear hK K
  refine norm_ (a' := ?_) ?_ ?_
  rotate_left
  · show Act.put _ (some 140) _ = _
    simp only [Act.put, List.setIfInBounds_toArray, List.set_cons_zero, List.set_cons_succ, i64_w, i32_w]
    rfl
  refine pure_ (i := 9) (N := some 141) (v := ?_) (a' := ?_) #[true, true, true, true, true, true, true, true, true, true, false, false] rfl rfl (by kernel_rfl) (fun _ _ _ h => h) (Or.inl ⟨by rfl, ?_⟩) ?_ ?_
  rotate_left
  · intro w'
    go_simp
    with_reducible rfl
  rotate_left
  · simp only [Act.put, List.setIfInBounds_toArray, List.set_cons_zero, List.set_cons_succ, i64_w, i32_w]
    rfl
  refine pure_ (i := 10) (N := some 142) (v := ?_) (a' := ?_) #[true, true, true, true, true, true, true, true, true, true, true, false] rfl rfl (by kernel_rfl) (fun _ _ _ h => h) (Or.inl ⟨by rfl, ?_⟩) ?_ ?_
  rotate_left
  · intro w'
    go_simp
    with_reducible rfl
  rotate_left
  · simp only [Act.put, List.setIfInBounds_toArray, List.set_cons_zero, List.set_cons_succ, i64_w, i32_w]
    rfl
  refine last_ (i := 11) (N := none) #[true, true, true, true, true, true, true, true, true, true, true, true] rfl rfl (by kernel_rfl) (by decide) (fun K hK => ?_)
  refine skip_ (w1 := ?_) (by rfl) rfl ?_ ?_
  rotate_left
  · go_simp
    rfl
  refine hK.out _ _ ?_
  clear hK K
  refine done_ (by kernel_rfl) ?_
  have HFIN := Aside0.mk (show PostR w0 w g v { t with l := t.l ++ [⟨k, rp, t.now + t.keep⟩] } (w2.setCell ⟨g, 3, none⟩ (.slice A2 (t.l ++ [(⟨k, rp, nw + kp⟩ : Bk)]).length c2)) from by
    have z1 := HNW.out; have z2 := HKP.out
    subst z1 z2
    refine ⟨_, (HP.out.1.below b3).lay (l3.lower HP.out.2.1.size), below_set (below_step HP.out.2.1 b3) HGE.out, KeepBut.set_ (KeepBut.trans HP.out.2.2.1 (KeepBut.of_below b3 g _) (.inl rfl)) 3 _, ?_⟩
    rcases o2 with e | e
    · rw [e]; exact .inr (o1.imp id fun ⟨b, e, hb⟩ => ⟨b, e, Nat.le_trans HP.out.2.2.1.1 hb⟩)
    · exact .inr (.inr ⟨_, e, Nat.le_trans HP.out.2.2.1.1 b2.size⟩))
  go_wp2_with fail
  first | go_end0 | ((try simp only [Exit.inBlock, Exit.then]); refine bodyPost_ret (results_none rfl _ _ _) rfl ?_)
  exact ⟨rfl, by simpa only [List.length_append, List.length_singleton] using HFIN.out⟩
end Go.Proofs.Ytghicenodafbkaa.Aff
