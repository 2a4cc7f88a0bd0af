/- The wheel: front, Next; no condition but those that stand in each. -/
import Derived.Test.YtpkilechkoiffaaWhS
namespace Go.Proofs.Ytpkilechkoiffaa.Wh
set_option linter.unusedVariables false
set_option linter.unusedSimpArgs false
open Go.RowKit Go.Proofs.YtpkilechkoiffaaW.PrintWords Go.Proofs.YtpkilechkoiffaaW.PrintLast Go.Proofs.YtpkilechkoiffaaW.PrintMore Go.Proofs.Ytpkilechkoiffaa.Lst Go.Proofs.Ytpkilechkoiffaa.Heap Go.Proofs.Ytpkilechkoiffaa.TabL
attribute [local go_sem] max2_int min2_int max_two min_two max_three min_three max_four min_four
theorem look2_run (w : World) (b : Nat) (l : List Bk) (hM : MapIs w b l) (k : Int) (hk : -9223372036854775808 ≤ k ∧ k ≤ 9223372036854775807) (r0 : Int) (r2 : Bool) (hr : lookV l k = (r0, r2)) :
    (Instr.lookup 56 (.map (some b)) (.int .i64 k) true).run Try.prog w = .ok (.tuple #[.int .u64 r0, .bool r2]) w := by
  obtain ⟨D, ho, r⟩ := hM
  obtain ⟨v, ps, hrun, hv⟩ := ho.look_ok law Try.underlying56 (zeroE w) (RB_mk 0) (keyK hk)
  rw [hrun]
  rw [RelD.at ho r] at hv
  rw [r.has]
  obtain ⟨x', rfl, hz⟩ := RB_inv hv
  have he := congrArg Prod.fst hz
  have hh := look_has l k
  unfold lookV at hr hh
  cases hf : l.find? (fun q => q.key == k) with
  | none =>
    rw [hf] at he hr hh
    obtain rfl := datX_inj he
    simp only [Prod.mk.injEq] at hr
    obtain ⟨rfl, rfl⟩ := hr
    rw [← hh]
    rfl
  | some q =>
    rw [hf] at he hr hh
    obtain rfl := datX_inj he
    simp only [Prod.mk.injEq] at hr
    obtain ⟨rfl, rfl⟩ := hr
    rw [← hh]
    rfl
theorem IsW.heap {w0 w W : World} {g b : Nat} {v : Value} {s : WS} {l' : List Tm} (h : IsW w0 w g v b s) (hp : PostF w0 w g v (.map (some b)) (.int .i64 s.last) (.int .i64 s.now) l' W) : PostW w0 w g v b { s with heap := l' } W := by
  obtain ⟨v', h1, h2, h3, h4⟩ := hp
  refine ⟨v', ⟨h1, h.map.move (h3.2 b h.map.lt ?_), h.2.2⟩, h2, h3.mono fun k hk => ?_, h4⟩
  · rintro (e | e)
    · exact h.ne e.symm
    · exact h.neb e.symm
  · rcases hk with rfl | hk
    · exact .inl rfl
    · exact .inr (.inl hk)
theorem hz37 (w : World) : (zeroValue 37).run Try.prog w = .ok (.agg #[.int .i64 0, .int .i64 0, .int .u64 0, .int .i64 0]) w := by kernel_rfl
def tv (t : Tm) : Value := .agg #[.int .i64 t.n, .int .i64 t.kind, .int .u64 t.lab, .int .i64 t.att]
def topT (L : List Tm) : Tm := L.headD zT
def anyT (L : List Tm) : Bool := !L.isEmpty
/-- a timer is laid into a block of its own -/
def st4 (W : World) (q : Nat) (n kind lab att : Int) : World := (((W.setCell ⟨q, 0, none⟩ (.int .i64 n)).setCell ⟨q, 1, none⟩ (.int .i64 kind)).setCell ⟨q, 2, none⟩ (.int .u64 lab)).setCell ⟨q, 3, none⟩ (.int .i64 att)
theorem st4_blk {W : World} {q : Nat} {a0 a1 a2 a3 : Value} (h : W.heap[q]? = some (.cells #[a0, a1, a2, a3] 37 (0, 0))) (n kind lab att : Int) : (st4 W q n kind lab att).heap[q]? = some (.cells #[.int .i64 n, .int .i64 kind, .int .u64 lab, .int .i64 att] 37 (0, 0)) :=
  blk_set (blk_set (blk_set (blk_set h 0 _) 1 _) 2 _) 3 _
theorem st4_keep (W : World) (q : Nat) (n kind lab att : Int) : KeepBut W (st4 W q n kind lab att) q none := KeepBut.set_ (KeepBut.set_ (KeepBut.set_ (KeepBut.set_ (KeepBut.refl W q none) 0 _) 1 _) 2 _) 3 _
theorem st4_below {w0 W : World} {q : Nat} (h : Below w0.heap.size w0 W) (hg : w0.heap.size ≤ q) (n kind lab att : Int) : Below w0.heap.size w0 (st4 W q n kind lab att) := below_set (below_set (below_set (below_set h hg) hg) hg) hg
theorem IsW.off {w0 W W' : World} {g b q : Nat} {v : Value} {s : WS} (h : IsW w0 W g v b s) (hk : KeepBut W W' q none) (h1 : g ≠ q) (h2 : v.ownBlock ≠ some q) (h3 : b ≠ q) : IsW w0 W' g v b s :=
  ⟨⟨hk.blk h.f.1 h1 (by simp), hk.own h.f.2 h2 (by cases v.ownBlock with | none => exact .inl rfl | some k => exact .inr (by simp))⟩, h.map.move (hk.2 b h.map.lt h3 (by simp)), h.2.2⟩
theorem kept_off {w W W' : World} {S : Nat → Prop} {q : Nat} (h : Kept w W S) (hk : KeepBut W W' q none) (hq : w.heap.size ≤ q) : Kept w W' S :=
  h.then_ (S2 := fun k => k = q) ⟨hk.1, fun i hi hn => hk.2 i hi hn (by simp)⟩ (fun k e => .inr (e ▸ hq))
theorem res23 {w : World} {q : Nat} {n kind lab att : Int} {r : Bool} {tmps : Array Value} (hq : w.heap[q]? = some (.cells #[.int .i64 n, .int .i64 kind, .int .u64 lab, .int .i64 att] 37 (0, 0))) (h2 : tmps.getD 2 undef = .pointer (some ⟨q, 0, none⟩)) (h3 : tmps.getD 3 undef = .bool r) :
    (results Try.f23 tmps).run Try.prog w = .ok (.tuple #[.agg #[.int .i64 n, .int .i64 kind, .int .u64 lab, .int .i64 att], .bool r]) w := by
  have q0 := blk_cell hq 0; have q1 := blk_cell hq 1; have q2 := blk_cell hq 2; have q3 := blk_cell hq 3
  have hu37 := Try.underlying37
  rw [results_cell_tmp rfl, h2, h3]
  go_simp
theorem fow_trans {w w1 w2 : World} {g b : Nat} {v v1 v2 : Value} (hk : Kept w w1 (FoW g v b)) (ho : v1.ownBlock = v.ownBlock ∨ ∃ k, v1.ownBlock = some k ∧ w.heap.size ≤ k) (h3 : Kept w1 w2 (FoW g v1 b)) (h4 : v2.ownBlock = v1.ownBlock ∨ ∃ k, v2.ownBlock = some k ∧ w1.heap.size ≤ k) :
    Kept w w2 (FoW g v b) ∧ (v2.ownBlock = v.ownBlock ∨ ∃ k, v2.ownBlock = some k ∧ w.heap.size ≤ k) := by
  refine ⟨hk.then_ h3 fun k hk' => ?_, ?_⟩
  · rcases hk' with rfl | e | e
    · exact .inl (.inl rfl)
    · rcases ho with ho | ⟨b, ho, hb⟩
      · exact .inl (.inr (.inl (ho ▸ e)))
      · rw [ho] at e; cases e; exact .inr hb
    · exact .inl (.inr (.inr e))
  · rcases h4 with h4 | ⟨b, h4, hb'⟩
    · rw [h4]; exact ho
    · exact .inr ⟨b, h4, Nat.le_trans hk.1 hb'⟩
/-- what front leaves: the same timers, the heap less those that were stopped -/
def PostX (w0 w : World) (g : Nat) (v : Value) (b : Nat) (s : WS) (L : List Tm) (w' : World) : Prop := ∃ h', Sim { s with heap := h' } L ∧ h'.length ≤ s.heap.length ∧ PostW w0 w g v b { s with heap := h' } w'
theorem PostX.below {w0 w w' w'' : World} {g b : Nat} {v : Value} {s : WS} {L : List Tm} (h : PostX w0 w g v b s L w') (hb : Below w'.heap.size w' w'') : PostX w0 w g v b s L w'' := by
  obtain ⟨h', a, c, v', i, bl, k, o⟩ := h
  exact ⟨h', a, c, v', i.below hb, below_step bl hb, k.below hb, o⟩
/-- what a call leaves: the timers L, the last number, the time; no more than m in the heap -/
def PostS (w0 w : World) (g : Nat) (v : Value) (b : Nat) (last now : Int) (m : Nat) (L : List Tm) (w' : World) : Prop := ∃ s' : WS, s'.last = last ∧ s'.now = now ∧ s'.heap.length ≤ m ∧ Sim s' L ∧ PostW w0 w g v b s' w'
theorem PostX.s {w0 w w' : World} {g b : Nat} {v : Value} {s : WS} {L : List Tm} (h : PostX w0 w g v b s L w') : PostS w0 w g v b s.last s.now s.heap.length L w' := by
  obtain ⟨h', a, c, p⟩ := h
  exact ⟨{ s with heap := h' }, rfl, rfl, c, a, p⟩
set_option maxHeartbeats 8000000 in
theorem front_c (w0 : World) (g : Nat) (v : Value) (b : Nat) (s : WS) (L : List Tm) (hs : Sim s L) (hl : s.heap.length ≤ 100000) (hbd : s.last ≤ 2147483647) (t : Tm) (ht : topT L = t) (r : Bool) (hr : anyT L = r) (w : World) (h : IsW w0 w g v b s) (hB : Below w0.heap.size w0 w) :
    Calls Try.prog 23 #[.pointer (some ⟨g, 0, none⟩)] w fun e w' => e = .returned (.tuple #[.agg #[.int .i64 t.n, .int .i64 t.kind, .int .u64 t.lab, .int .i64 t.att], .bool r]) ∧ PostX w0 w g v b s L w' := by
  have hu37 := Try.underlying37
  have hzz := hz37
  have HS := Aside0.mk hs; have HL := Aside0.mk hl; have HT := Aside0.mk ht; have HR := Aside0.mk hr; have HBD := Aside0.mk hbd
  obtain ⟨q, hq⟩ : ∃ q, w.heap.size = q := ⟨_, rfl⟩
  obtain ⟨w1, hw1⟩ : ∃ w1, w.alloc (.cells #[.int .i64 0, .int .i64 0, .int .u64 0, .int .i64 0] 37) = w1 := ⟨_, rfl⟩
  have b1 : Below w.heap.size w w1 := by rw [← hw1]; exact below_alloc (Below.refl _ _) _
  have HQ := Aside0.mk (show w1.heap[q]? = some (.cells #[.int .i64 0, .int .i64 0, .int .u64 0, .int .i64 0] 37 (0, 0)) from by rw [← hw1, ← hq]; exact blk_new _ _)
  have HW := Aside0.mk (h.below b1)
  have HB := Aside0.mk (below_step hB b1)
  have HK := Aside0.mk (Kept.of_below b1 (FoW g v b))
  have HN := Aside0.mk (show v.ownBlock ≠ some q ∧ g ≠ q ∧ w.heap.size ≤ q ∧ w0.heap.size ≤ q from by
    refine ⟨fun e => ?_, ?_, by omega, by have := hB.size; omega⟩
    · have := (h.f.ls.own q e).2.1; omega
    · have := h.lt; omega)
  clear hs hl ht hr hbd h hB b1
  obtain ⟨n0, hn0⟩ : ∃ n, s.heap.length = n := ⟨_, rfl⟩
  have HN0 := Aside0.mk hn0
  clear hn0
  go_enter Try.func23, Try.ntmps23
  go_wp2_with fail

  go_loopg [] n0 (fun k wr => ∃ (h' : List Tm) (v' : Value), Aside0 (h'.length = k ∧ k ≤ s.heap.length) ∧ Aside0 (Sim { s with heap := h' } L) ∧ Aside0 (IsW w0 wr g v' b { s with heap := h' }) ∧ Aside0 (Below w0.heap.size w0 wr) ∧ Aside0 (Kept w wr (FoW g v b)) ∧ Aside0 ((v'.ownBlock = v.ownBlock ∨ ∃ k, v'.ownBlock = some k ∧ w.heap.size ≤ k) ∧ v'.ownBlock ≠ some q) ∧ Aside0 (wr.heap[q]? = some (.cells #[.int .i64 0, .int .i64 0, .int .u64 0, .int .i64 0] 37 (0, 0))))
  case atStart => exact ⟨s.heap, v, ⟨HN0.out, by rw [HN0.out]; exact Nat.le_refl _⟩, HS, HW, HB, HK, ⟨.inl rfl, HN.out.1⟩, HQ⟩
  case round =>
    clear HS HW HB HK HQ
    obtain ⟨h', v', HLN, HS, HW, HB, HK, HO, HQ⟩ := hrel
    have hc := HW.out.c0
    obtain ⟨A, c, hv', _, _⟩ := HW.out.f.ls.form
    dsimp only at hv'
    have hq := HQ.out
    have q0 := blk_cell hq 0; have q1 := blk_cell hq 1; have q2 := blk_cell hq 2; have q3 := blk_cell hq 3
    have f0 := blk_frozen hq 0; have f1 := blk_frozen hq 1; have f2 := blk_frozen hq 2; have f3 := blk_frozen hq 3
    clear hq
    by_cases hz : h'.length = 0
    · have d1 : decide ((0 : Int) < (h'.length : Int)) = false := decide_eq_false (by omega)
      have d2 : decide (0 < h'.length) = false := decide_eq_false (by omega)
      have hL := HS.out.none hz
      have ht := HT.out; have hr := HR.out
      rw [hL] at ht hr
      subst ht; subst hr
      rw [hv', hz] at hc
      have hc' : wr.cell? ⟨g, 0, none⟩ = some (.slice A 0 c) := hc
      obtain ⟨w2, hw2⟩ : ∃ w2, st4 wr q 0 0 0 0 = w2 := ⟨_, rfl⟩
      have HQ2 := Aside0.mk (hw2 ▸ st4_blk HQ.out 0 0 0 0)
      have HX := Aside0.mk (show PostX w0 w g v b s L w2 from by
        have hk := st4_keep wr q 0 0 0 0
        have hb := st4_below HB.out HN.out.2.2.2 0 0 0 0
        rw [hw2] at hk hb
        exact ⟨h', HS.out, by have := HLN.out; show h'.length ≤ _; omega, _, HW.out.off hk HN.out.2.1 HO.out.2 (HW.out.map.ne HQ.out).symm, hb, kept_off HK.out hk HN.out.2.2.1, HO.out.1⟩)
      unfold st4 at hw2
      clear hL hc hv' hz
      go_wp2_with fail
      first | (try simp only [Exit.inBlock, Exit.then]); exact bodyPost_ret (res23 HQ2.out rfl rfl) rfl ⟨rfl, HX.out⟩
    · obtain ⟨tt, htt⟩ : ∃ tt, at_ zT h' 0 = tt := ⟨_, rfl⟩
      have hpos : 0 < h'.length := by omega
      have hgt := at_get zT hpos
      rw [htt] at hgt
      have hls := HW.out.f.ls
      dsimp only at hls
      rw [hv'] at hls hc
      obtain ⟨gb, rfl, hgb, hgl, ⟨k0, k1, k2, k3⟩, _⟩ := ls_at hls hgt
      simp only [Nat.zero_mul, Nat.zero_add] at k0 k1 k2 k3
      have d1 : decide ((0 : Int) < (h'.length : Int)) = true := decide_eq_true (by omega)
      have d2 : decide (0 < h'.length) = true := decide_eq_true (by omega)
      have d3 : decide (h'.length = 0) = false := decide_eq_false hz
      have hc1 := HW.out.c1
      have hb9 := HS.out.bd tt (List.mem_of_getElem? hgt)
      have hlk := HS.out.has tt.n
      dsimp only at hb9 hlk
      obtain ⟨y, z, hy⟩ : ∃ y z, lookV s.live tt.n = (y, z) := ⟨_, _, rfl⟩
      have hb8 := HBD.out
      have HLK := Aside0.mk (fun W hM => look2_run W b s.live hM tt.n (by omega) y z hy)
      rw [hy] at hlk
      dsimp only at hlk
      by_cases hh : hasT L tt.n = true
      · rw [hh] at hlk
        subst hlk
        have hlr := fun n => HLK.out (World.drewN wr n) (HW.out.map.move rfl)
        obtain ⟨L', hL'⟩ := HS.out.top (show 0 < h'.length by omega) (by show hasT L (at_ zT h' 0).n = true; rw [htt]; exact hh)
        have hL2 : L = tt :: L' := by rw [hL']; show _ :: _ = _; rw [htt]
        have ht := HT.out; have hr := HR.out
        rw [hL2] at ht hr
        subst ht; subst hr
        clear hL' hL2 hv' hz hh hy hb8 hb9 hls hgt
        go_upto_region 2 with (fail)
        go_quiet (fail)
        have HQ := Aside0.mk (blk_drewN HQ.out nq)
        have HW := Aside0.mk (HW.out.drew nq)
        have HB := Aside0.mk (pw_below_drewN HB.out nq)
        have HK := Aside0.mk (HK.out.drewN nq)
        obtain ⟨w2, hw2⟩ : ∃ w2, st4 (World.drewN wr nq) q tt.n tt.kind tt.lab tt.att = w2 := ⟨_, rfl⟩
        have HQ2 := Aside0.mk (hw2 ▸ st4_blk HQ.out tt.n tt.kind tt.lab tt.att)
        have HX := Aside0.mk (show PostX w0 w g v b s L w2 from by
          have hk := st4_keep (World.drewN wr nq) q tt.n tt.kind tt.lab tt.att
          have hb := st4_below HB.out HN.out.2.2.2 tt.n tt.kind tt.lab tt.att
          rw [hw2] at hk hb
          exact ⟨h', HS.out, by have := HLN.out; show h'.length ≤ _; omega, _, HW.out.off hk HN.out.2.1 HO.out.2 (HW.out.map.ne HQ.out).symm, hb, kept_off HK.out hk HN.out.2.2.1, HO.out.1⟩)
        unfold st4 at hw2
        go_wp2_with fail
        first | (try simp only [Exit.inBlock, Exit.then]); exact bodyPost_ret (res23 HQ2.out rfl rfl) rfl ⟨rfl, HX.out⟩
      · have hh2 : hasT L tt.n = false := by simpa using hh
        rw [hh2] at hlk
        subst hlk
        have hlr := fun n => HLK.out (World.drewN wr n) (HW.out.map.move rfl)
        obtain ⟨x, l', hx⟩ : ∃ x l', popV zT ltT h' = (x, l') := ⟨_, _, rfl⟩
        have hpp := HS.out.pop hpos (by show hasT L (at_ zT h' 0).n = false; rw [htt]; exact hh2) hx
        have HP := Aside0.mk hpp
        have HXX := Aside0.mk hx
        have HPOS := Aside0.mk hpos
        clear hpp hx hv' hz hh hh2 hy hb8 hb9 hls hgt
        go_upto_region 2 with (fail)
        go_quiet (fail)
        have HQ := Aside0.mk (blk_drewN HQ.out nq)
        have HW := Aside0.mk (HW.out.drew nq)
        have HB := Aside0.mk (pw_below_drewN HB.out nq)
        have HK := Aside0.mk (HK.out.drewN nq)
        go_wp2_with (first | (go_at_call 26; (with_reducible refine (heappop_c w0 g _ _ _ _ h' (by have := HL.out; have := HLN.out; omega) HPOS.out x l' HXX.out _ HW.out.f HB.out HW.out.ge).mono ?_); rintro e w9 ⟨rfl, hp⟩; have HP9 := Aside0.mk (HW.out.heap hp); have HPF := Aside0.mk hp; clear hp))
        go_roundg l'.length
        case measure => have a := HP.out.2; have c := HLN.out; omega
        case rel =>
          obtain ⟨v2, i2, b2, kk2, o2⟩ := HP9.out
          obtain ⟨t1, t2⟩ := fow_trans HK.out HO.out.1 kk2 o2
          have hqb := HW.out.map.ne HQ.out
          refine ⟨l', v2, ⟨rfl, by have a := HP.out.2; have c := HLN.out; omega⟩, ⟨HP.out.1⟩, ⟨i2⟩, ⟨b2⟩, ⟨t1⟩, ⟨t2, fun e => ?_⟩, ⟨blk_kept HQ.out kk2 ?_⟩⟩
          · rcases o2 with o2 | ⟨k, o2, hk⟩
            · exact HO.out.2 (o2 ▸ e)
            · rw [o2] at e; cases e
              exact absurd (blk_lt HQ.out) (Nat.not_lt.2 hk)
          · rintro (e | e | e)
            · exact HN.out.2.1 e.symm
            · exact HO.out.2 e
            · exact hqb e
set_option maxHeartbeats 8000000 in
theorem next_c (w0 : World) (g : Nat) (v : Value) (b : Nat) (s : WS) (L : List Tm) (hs : Sim s L) (hl : s.heap.length ≤ 100000) (hbd : s.last ≤ 2147483647) (t : Tm) (ht : topT L = t) (r : Bool) (hr : anyT L = r) (w : World) (h : IsW w0 w g v b s) (hB : Below w0.heap.size w0 w) :
    Calls Try.prog 19 #[.pointer (some ⟨g, 0, none⟩)] w fun e w' => e = .returned (.tuple #[.int .i64 t.att, .bool r]) ∧ PostX w0 w g v b s L w' := by
  have HF := Aside0.mk (front_c w0 g v b s L hs hl hbd t ht r hr w h hB)
  have HW := Aside0.mk h
  have hu37 := Try.underlying37
  have hzz := hz37
  clear hs hl hbd ht hr h hB
  go_enter Try.func19, Try.ntmps19
  go_wp2_with (first | (go_at_call 21; (with_reducible refine (ok_c w0 g _ b s _ HW.out).mono ?_); rintro e w9 ⟨rfl, rfl⟩) | (go_at_call 23; (with_reducible refine HF.out.mono ?_); rintro e w9 ⟨rfl, hp⟩; have HP := Aside0.mk hp; clear hp))
  go_ret2
  exact ⟨rfl, PostX.below HP.out (below_alloc (Below.refl _ _) _)⟩
end Go.Proofs.Ytpkilechkoiffaa.Wh
