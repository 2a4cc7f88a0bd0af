/- What msg.Load lays, plain; a string's iterator wherever it lies; no condition but those that stand in each. -/
import Derived.Test.YtbfmbjkalldonaaMsS
import Derived.Test.YtbfmbjkalldonaaPAx6
import Derived.Test.YtbfmbjkalldonaaPAx7
import Derived.Laws.RangeString
namespace Go.Proofs.Ytbfmbjkalldonaa.Msg
set_option linter.unusedVariables false
set_option linter.unusedSimpArgs false
open Go.RowKit Go.Proofs.Ytbfmbjkalldonaa.PA Go.Proofs.YtbfmbjkalldonaaW.PrintWords Go.Proofs.YtbfmbjkalldonaaW.PrintLast Go.Proofs.YtbfmbjkalldonaaW.PrintMore Go.Proofs.Ytbfmbjkalldonaa.Base Go.Proofs.Ytbfmbjkalldonaa.Var Go.Proofs.Ytbfmbjkalldonaa.Lst
/-! ### the iterator -/
def itTo (W : World) (it : Nat) (S : ByteArray) (pos : Nat) : World := { W with heap := W.heap.setIfInBounds it (.stringIter S pos) }
theorem next_run (W : World) (it : Nat) (S : ByteArray) (pos : Nat) (ty : TypeId) (h : W.heap[it]? = some (.stringIter S pos)) (hp : pos < S.size) (ha : (S[pos]'hp).toNat < 128) :
    (Instr.next (.pointer (some ⟨it, 0, none⟩)) true ty).run Try.prog W = .ok (.tuple #[.bool true, .int .i64 pos, .int .i32 (S[pos]'hp).toNat]) (itTo W it S (pos + 1)) := by
  simp only [Instr.next, getObj, setObj, Sem.run_bind, Sem.run, h, Result.andThen, hp, if_true, decode_ascii S pos hp ha]
  simp [goInt, Sem.run, h, itTo]
theorem next_end (W : World) (it : Nat) (S : ByteArray) (pos : Nat) (ty : TypeId) (h : W.heap[it]? = some (.stringIter S pos)) (hp : ¬ pos < S.size) :
    (Instr.next (.pointer (some ⟨it, 0, none⟩)) true ty).run Try.prog W = .ok (.tuple #[.bool false]) W := by
  simp [Instr.next, getObj, Sem.run, h, hp]
theorem itTo_at (W : World) (it : Nat) (S : ByteArray) (pos : Nat) (h : it < W.heap.size) : (itTo W it S pos).heap[it]? = some (.stringIter S pos) := by
  unfold itTo
  simp [h]
theorem itTo_kept (W : World) (it : Nat) (S : ByteArray) (pos : Nat) : Kept W (itTo W it S pos) (fun i => i = it) := by
  refine ⟨by unfold itTo; simp, fun i hi hn => ?_⟩
  unfold itTo
  simp only
  rw [Array.getElem?_setIfInBounds]
  rw [if_neg (fun e => hn e.symm)]
theorem itTo_below {w W : World} {it : Nat} (h : Below w.heap.size w W) (hg : w.heap.size ≤ it) (S : ByteArray) (pos : Nat) : Below w.heap.size w (itTo W it S pos) :=
  ⟨h.os, h.tape, h.output, by unfold itTo; simpa using h.size, fun i hi => by
    have := (itTo_kept W it S pos).2 i (Nat.lt_of_lt_of_le hi h.size) (fun e => by omega)
    exact this.trans (h.block i hi)⟩
theorem byte_at {S : ByteArray} {cs : List Int} (hb : bytesOf S = cs) {i : Nat} {c : Int} (hc : cs[i]? = some c) (hi : i < S.size) : (((S[i]'hi).toNat : Nat) : Int) = c := by
  subst hb
  have h' : i < S.data.toList.length := by rw [data_length]; exact hi
  unfold bytesOf at hc
  rw [List.getElem?_map, List.getElem?_eq_getElem h'] at hc
  have := Option.some.inj hc
  rw [← this]
  rfl
/-! ### what is laid -/
structure Ms.U (m : Ms) : Prop where
  s : 0 ≤ m.s ∧ m.s ≤ top
  se : 0 ≤ m.se ∧ m.se ≤ top
  a : 0 ≤ m.a ∧ m.a ≤ top
  i : 0 ≤ m.i ∧ m.i ≤ top
  n : 0 ≤ m.n ∧ m.n ≤ top
  c : 0 ≤ m.c ∧ m.c ≤ top
  seed : 0 ≤ m.seed ∧ m.seed ≤ top
theorem Ms.In.u {m : Ms} (h : m.In) : m.U := ⟨h.s, h.se, h.a, h.i, h.n, h.c, h.seed⟩
def wordsV (m : Ms) (c : Int) : List Int := if c = 119 then [m.why] else if c = 106 then m.seed :: m.most :: (m.P.length : Int) :: m.P else if c = 108 then (m.L.length : Int) :: m.L else [getV m c]
def loadV (m : Ms) : List Int := flat (m.k :: (lettersV m.k).flatMap (wordsV m))
def loadR (m : Ms) : List Int × Int := if mayV m = true then (loadV m, 0) else ([], 1)
theorem tok_of {l : List Int} (h : tokV l = true) : l.length ≤ 256 ∧ ∀ x ∈ l, 0 ≤ x ∧ x < 64 := by
  unfold tokV at h
  rw [Bool.and_eq_true] at h
  refine ⟨of_decide_eq_true h.1, fun x hx => ?_⟩
  have h2 := h.2
  rw [Bool.not_eq_true', List.any_eq_false] at h2
  have := h2 x hx
  unfold badV at this
  rw [Bool.or_eq_true] at this
  have h3 : ¬ x < 0 := fun e => this (.inl (decide_eq_true e))
  have h4 : ¬ 64 ≤ x := fun e => this (.inr (decide_eq_true e))
  omega
structure May (m : Ms) : Prop where
  k : 1 ≤ m.k ∧ m.k ≤ 12
  why : 0 ≤ m.why ∧ m.why ≤ 255
  most : 0 ≤ m.most ∧ m.most ≤ 256
  P : m.P.length ≤ 256 ∧ ∀ x ∈ m.P, 0 ≤ x ∧ x < 64
  L : m.L.length ≤ 256 ∧ ∀ x ∈ m.L, 0 ≤ x ∧ x < 64
  lack : lackV m = true
theorem may_of {m : Ms} (h : mayV m = true) : May m := by
  unfold mayV at h
  simp only [Bool.and_eq_true, Bool.not_eq_true', decide_eq_false_iff_not] at h
  obtain ⟨⟨⟨⟨⟨⟨⟨h1, h2⟩, h3⟩, h4⟩, h5⟩, h6⟩, h7⟩, h8⟩ := h
  refine ⟨?_, by omega, by omega, tok_of h6, tok_of h7, h8⟩
  by_cases hk : 1 ≤ m.k ∧ m.k ≤ 12
  · exact hk
  · have e0 : lettersV m.k = [] := by
      unfold lettersV
      repeat rw [if_neg (by omega)]
    rw [e0] at h1
    cases h1
theorem wf64 {x : Int} (h : 0 ≤ x ∧ x ≤ top) : (Lit.int .u64 x).wf = true := by
  unfold top at h
  simp [Lit.wf, IntKind.min, IntKind.max, IntKind.bits, IntKind.signed]; omega
theorem words_wf {m : Ms} (hu : m.U) (hm : May m) (c : Int) : (∀ x ∈ wordsV m c, (Lit.int .u64 x).wf = true) ∧ (wordsV m c).length ≤ 260 := by
  have hP := hm.P; have hL := hm.L; have h1 := hm.why; have h2 := hm.most
  unfold wordsV
  split
  · exact ⟨fun x hx => by simp only [List.mem_singleton] at hx; subst hx; exact wf64 ⟨h1.1, by unfold top; omega⟩, by simp⟩
  split
  · refine ⟨fun x hx => ?_, by simp only [List.length_cons]; omega⟩
    simp only [List.mem_cons] at hx
    rcases hx with rfl | rfl | rfl | hx
    · exact wf64 hu.seed
    · exact wf64 ⟨h2.1, by unfold top; omega⟩
    · exact wf64 ⟨by omega, by unfold top; omega⟩
    · exact wf64 ⟨(hP.2 x hx).1, by have := (hP.2 x hx).2; unfold top; omega⟩
  split
  · refine ⟨fun x hx => ?_, by simp only [List.length_cons]; omega⟩
    simp only [List.mem_cons] at hx
    rcases hx with rfl | hx
    · exact wf64 ⟨by omega, by unfold top; omega⟩
    · exact wf64 ⟨(hL.2 x hx).1, by have := (hL.2 x hx).2; unfold top; omega⟩
  · refine ⟨fun x hx => ?_, by simp⟩
    simp only [List.mem_singleton] at hx
    subst hx
    unfold getV
    split; · exact wf64 hu.s
    split; · exact wf64 hu.se
    split; · exact wf64 hu.a
    split; · exact wf64 hu.i
    split; · exact wf64 hu.n
    exact wf64 hu.c
theorem all_wf {m : Ms} (hu : m.U) (hm : May m) (cs : List Int) (hcs : cs.length ≤ 4) : (∀ x ∈ m.k :: cs.flatMap (wordsV m), (Lit.int .u64 x).wf = true) ∧ (m.k :: cs.flatMap (wordsV m)).length ≤ 1041 := by
  constructor
  · intro x hx
    rcases List.mem_cons.1 hx with rfl | hx
    · exact wf64 ⟨by have := hm.k; omega, by have := hm.k; unfold top; omega⟩
    · obtain ⟨c, _, hx⟩ := List.mem_flatMap.1 hx
      exact (words_wf hu hm c).1 x hx
  · have key : ∀ cs : List Int, (cs.flatMap (wordsV m)).length ≤ 260 * cs.length := by
      intro cs
      induction cs with
      | nil => simp
      | cons c cs ih =>
        rw [List.flatMap_cons, List.length_append, List.length_cons]
        have := (words_wf hu hm c).2
        omega
    rw [List.length_cons]
    have := key cs
    omega
theorem load_len {m : Ms} (hu : m.U) (hm : May m) : (loadV m).length ≤ 20000 := by
  obtain ⟨h1, h2⟩ := all_wf hu hm (lettersV m.k) (letters_len m.k)
  have := flat_len _ h1
  unfold loadV
  omega
theorem flat_app (l r : List Int) : flat (l ++ r) = flat l ++ flat r := by unfold flat; exact List.flatMap_append
/-! ### how it is laid -/
theorem puts_loop (l : List Int) (hl : l.length ≤ 256) (hx : ∀ x ∈ l, 0 ≤ x ∧ x < 64) : ∀ (t : List Int) (i : Nat) (b : List Int), i ≤ l.length → l.drop i = t → b.length + 10 * t.length ≤ 1000000 → Ev (fun k => msg_puts.l0 k b l (l.length : Int) (i : Int)) (b ++ flat t)
  | [], i, b, hi, h, _ => by
    have := drop_end hi h
    refine Ev.step (f := fun _ => some b) (fun q => by rw [msg_puts.l0, if_neg (by omega)]) (ev_eq (Ev.now _) ?_)
    simp [flat]
  | c :: t, i, b, hi, h, hb => by
    obtain ⟨hr, hlt, hd⟩ := rd_drop h
    have e1 : wrap64 ((i : Int) + 1) = ((i + 1 : Nat) : Int) := by rw [w64 (by omega) (by omega)]; omega
    have hc := hx c (List.mem_of_mem_drop (by rw [h]; exact List.mem_cons_self))
    have e2 : IntKind.u64.wrap c = c := wu64 (by omega) (by omega)
    have hwf : ∀ x ∈ [c], (Lit.int .u64 x).wf = true := fun x hx' => by simp only [List.mem_singleton] at hx'; subst hx'; exact wf64 ⟨hc.1, by unfold top; omega⟩
    rw [List.length_cons] at hb
    have hfl := flat_len [c] hwf
    rw [List.length_singleton] at hfl
    have hput := put_ev b [c] (by omega) (by simp) hwf
    refine Ev.step (f := fun k => (varint_Put.f k b [c]).bind fun t131 => msg_puts.l0 k t131 l (l.length : Int) ((i + 1 : Nat) : Int)) (fun q => ?_) (Ev.bind hput (ev_eq (puts_loop l hl hx t (i + 1) (b ++ flat [c]) (by omega) hd (by rw [List.length_append]; omega)) ?_))
    · rw [msg_puts.l0, if_pos (by omega), if_pos (by omega), if_pos (by omega), hr, e2, e1]
    · rw [List.append_assoc, ← flat_app]; rfl
theorem puts_ev (l b : List Int) (hl : l.length ≤ 256) (hx : ∀ x ∈ l, 0 ≤ x ∧ x < 64) (hb : b.length ≤ 100000) : Ev (fun k => msg_puts.f k b l) (b ++ flat ((l.length : Int) :: l)) := by
  unfold msg_puts.f
  have e2 : IntKind.u64.wrap (l.length : Int) = (l.length : Int) := wu64 (by omega) (by omega)
  have hwf : ∀ x ∈ [(l.length : Int)], (Lit.int .u64 x).wf = true := fun x hx' => by simp only [List.mem_singleton] at hx'; subst hx'; exact wf64 ⟨by omega, by unfold top; omega⟩
  have hfl := flat_len _ hwf
  rw [List.length_singleton] at hfl
  rw [e2]
  refine Ev.bind (put_ev b [(l.length : Int)] (by omega) (by simp) hwf) (ev_eq (puts_loop l hl hx l 0 _ (Nat.zero_le _) rfl (by rw [List.length_append]; omega)) ?_)
  rw [List.append_assoc, ← flat_app]; rfl
/-! ### at the machine -/
def encB : En Int := ⟨fun x => [.int .u8 x], 1, fun _ => rfl, fun x u hu => by simp at hu; subst hu; rfl, by decide⟩
theorem flat_u8 (xs : List Int) : xs.flatMap encB.enc = encs (Value.int .u8) xs := by
  induction xs with
  | nil => rfl
  | cons x xs ih => rw [List.flatMap_cons, ih]; rfl
theorem ls_of {w : World} {v : Value} {base : Nat} {xs : List Int} (h : Kd.R (Kd.int .u8) 5 w base (fun _ => True) v xs) : Ls encB 5 w base v xs := by
  have := Kd.own_of_R h
  unfold Ls
  rw [flat_u8]
  exact this
theorem C_of_ls {W : World} {b0 : Nat} {A : Option Addr} {n c : Nat} {xs : List Int} (h : Ls encB 5 W b0 (.slice A n c) xs) : n = xs.length ∧ xs.length ≤ c ∧ Kd.C (Kd.int .u8) W A xs.length xs := by
  obtain ⟨A', c', e, hc, _⟩ := h.form
  injection e with e1 e2 e3
  subst e1 e2 e3
  unfold Ls at h
  rw [flat_u8] at h
  exact ⟨rfl, hc, Kd.C_of_reads (own_reads_of' (d := (0 : Int)) h)⟩
theorem flat_i64 (xs : List Int) : xs.flatMap encI.enc = encs (Value.int .i64) xs := by
  induction xs with
  | nil => rfl
  | cons x xs ih => rw [List.flatMap_cons, ih]; rfl
theorem C_of_li {W : World} {b0 : Nat} {A : Option Addr} {n c : Nat} {xs : List Int} (h : Ls encI 3 W b0 (.slice A n c) xs) : n = xs.length ∧ xs.length ≤ c ∧ Kd.C (Kd.int .i64) W A xs.length xs := by
  obtain ⟨A', c', e, hc, _⟩ := h.form
  injection e with e1 e2 e3
  subst e1 e2 e3
  unfold Ls at h
  rw [flat_i64] at h
  exact ⟨rfl, hc, Kd.C_of_reads (own_reads_of' (d := (0 : Int)) h)⟩
/-- the bytes so far, and how they lie -/
def Out (W : World) (b0 : Nat) (v : Value) (xs : List Int) : Prop := Ls encB 5 W b0 v xs
theorem put_c (W : World) (b0 : Nat) (A : Option Addr) (c : Nat) (xs ys : List Int) (h : Ls encB 5 W b0 (.slice A xs.length c) xs) (hb : xs.length ≤ 100000) (hy : ys.length ≤ 1000) (hw : ∀ x ∈ ys, (Lit.int .u64 x).wf = true) :
    Calls Try.prog 29 #[.slice A xs.length c, .slice (some ⟨W.heap.size, 0, none⟩) ys.length ys.length] (W.alloc (.cells (ys.map (Value.int .u64)).toArray 24)) fun e w' => ∃ A' c', e = .returned (.slice A' (xs ++ flat ys).length c') ∧ Ls encB 5 w' W.heap.size (.slice A' (xs ++ flat ys).length c') (xs ++ flat ys) ∧ Below W.heap.size W w' := by
  obtain ⟨K, hK⟩ := put_ev xs ys (by omega) (by omega) hw
  have hba : Below W.heap.size W (W.alloc (.cells (ys.map (Value.int .u64)).toArray 24)) := below_alloc (Below.refl _ _) _
  obtain ⟨_, hc, hC⟩ := C_of_ls h
  have hY : Kd.C (Kd.int .u64) (W.alloc (.cells (ys.map (Value.int .u64)).toArray 24)) (some ⟨W.heap.size, 0, none⟩) ys.length ys := by
    refine Kd.C_of_reads (enc := Value.int .u64) (d := (0 : Int)) (h1 := fun _ => rfl) ⟨rfl, by omega, fun h0 => ⟨_, rfl, fun j hj => ?_⟩⟩
    rw [add_plain, blk_cell (blk_new W _)]
    rw [List.getElem?_toArray, List.getElem?_map, List.getD_eq_getElem?_getD, List.getElem?_eq_getElem hj]; rfl
  refine (varint_Put.calls K A c xs (some ⟨W.heap.size, 0, none⟩) ys.length ys _ _ (Kd.C_below hC hba) hc hY (Nat.le_refl _) (hK K (Nat.le_refl _))).mono ?_
  rintro e w' ⟨v, rfl, hR, hbl⟩
  have hl := ls_of hR
  obtain ⟨A', c', rfl, _, _⟩ := hl.form
  exact ⟨A', c', rfl, hl.lower hba.size, below_step hba hbl⟩
theorem puts_c (W : World) (b0 : Nat) (A B : Option Addr) (c d : Nat) (xs ys : List Int) (h : Ls encB 5 W b0 (.slice A xs.length c) xs) (hb : xs.length ≤ 100000) (hC2 : Kd.C (Kd.int .i64) W B ys.length ys) (hd : ys.length ≤ d) (hy : ys.length ≤ 256) (hx : ∀ x ∈ ys, 0 ≤ x ∧ x < 64) :
    Calls Try.prog 30 #[.slice A xs.length c, .slice B ys.length d] W fun e w' => ∃ A' c', e = .returned (.slice A' (xs ++ flat ((ys.length : Int) :: ys)).length c') ∧ Ls encB 5 w' W.heap.size (.slice A' (xs ++ flat ((ys.length : Int) :: ys)).length c') (xs ++ flat ((ys.length : Int) :: ys)) ∧ Below W.heap.size W w' := by
  obtain ⟨K, hK⟩ := puts_ev ys xs hy hx (by omega)
  obtain ⟨_, hc, hC⟩ := C_of_ls h
  refine (msg_puts.calls K A c xs B d ys _ W hC hc hC2 hd (hK K (Nat.le_refl _))).mono ?_
  rintro e w' ⟨v, rfl, hR, hbl⟩
  have hl := ls_of hR
  obtain ⟨A', c', rfl, _, _⟩ := hl.form
  exact ⟨A', c', rfl, hl, hbl⟩
end Go.Proofs.Ytbfmbjkalldonaa.Msg
