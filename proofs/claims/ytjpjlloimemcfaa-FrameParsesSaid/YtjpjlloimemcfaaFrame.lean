/- What frame computes: what is laid, the head, what is parsed, as functions on lists; no condition but that bytes are bytes and rows not long. -/
import Derived.Test.YtjpjlloimemcfaaVarGet
import Derived.Test.YtjpjlloimemcfaaCrcRef
import Derived.Test.YtjpjlloimemcfaaPAx7
import Derived.Test.YtjpjlloimemcfaaPAx11
import Derived.Test.YtjpjlloimemcfaaPAx12
namespace Go.Proofs.Ytjpjlloimemcfaa.Frm
set_option linter.unusedVariables false
set_option linter.unusedSimpArgs false
open Go.RowKit Go.Proofs.Ytjpjlloimemcfaa.PA Go.Proofs.YtjpjlloimemcfaaW.PrintWords Go.Proofs.YtjpjlloimemcfaaW.PrintLast Go.Proofs.YtjpjlloimemcfaaW.PrintMore Go.Proofs.Ytjpjlloimemcfaa.Base Go.Proofs.Ytjpjlloimemcfaa.Var

theorem Bytes.append {a b : List Int} (ha : Bytes a) (hb : Bytes b) : Bytes (a ++ b) := fun x hx => (List.mem_append.mp hx).elim (ha x) (hb x)
theorem Bytes.take {l : List Int} (h : Bytes l) (n : Nat) : Bytes (l.take n) := fun x hx => h x (List.mem_of_mem_take hx)
theorem alive_all : garboardlaw04_alive.f = some true := rfl
theorem mark_all : frame_mark.f = some [71, 98] := rfl

/-! ### what is laid -/
def bodyV (l : List Int) : List Int := [71, 98, 1] ++ vb l.length ++ l
def layV (l : List Int) : List Int := Crc.sealV (bodyV l)
theorem wfLen {l : List Int} (h : l.length ≤ 1000000) : (Lit.int .u64 (l.length : Int)).wf = true := by
  simp [Lit.wf, IntKind.min, IntKind.max, IntKind.bits, IntKind.signed]; omega
theorem vb2 {n : Nat} (h : n ≤ 2048) : (vb n).length ≤ 2 := vb_len 1 n (by
  have e : 128 ^ (1 + 1) = 16384 := by decide
  omega)
theorem body_len (l : List Int) : (bodyV l).length = 3 + (vb l.length).length + l.length := by simp [bodyV]; omega
theorem lay_len (l : List Int) : (layV l).length = 7 + (vb l.length).length + l.length := by unfold layV; rw [Crc.seal_len, body_len]; omega
theorem body_bytes {l : List Int} (h : Bytes l) : Bytes (bodyV l) := by
  refine Bytes.append (Bytes.append ?_ (vb_bytes _)) h
  intro x hx
  simp only [List.mem_cons, List.not_mem_nil, or_false] at hx; omega
theorem lay_bytes {l : List Int} (h : Bytes l) : Bytes (layV l) := Crc.seal_bytes (body_bytes h)
theorem putB_ev (b l : List Int) (hb : b.length ≤ 1000) (hl : l.length ≤ 1000000) : Ev (fun k => varint_PutBytes.f k b l) (b ++ vb l.length ++ l) := by
  have h10 := vb_len10 (n := l.length) (by omega)
  unfold varint_PutBytes.f
  rw [wu64 (x := (l.length : Int)) (by omega) (by omega)]
  have := put_ev b [(l.length : Int)] (by omega) (by simp) (fun x hx => by simp only [List.mem_singleton] at hx; subst hx; exact wfLen hl)
  rw [show flat [(l.length : Int)] = vb l.length by simp [flat]] at this
  exact Ev.bind this (ev_ifT (by rw [List.length_append]; omega) (Ev.now _))
theorem lay_ev (l : List Int) (hl : l.length ≤ 2048) : Ev (fun k => frame_Lay.f k l) (layV l, 0) := by
  have hv := vb2 hl
  unfold frame_Lay.f
  rw [mark_all]
  simp only [Option.bind_some]
  refine ev_ifF (by omega) (ev_ifT (by simp) ?_)
  refine Ev.bind (putB_ev ([71, 98] ++ [1]) l (by simp) (by omega)) ?_
  refine Ev.bind (Crc.seal_ev (bodyV l) (by rw [body_len]; omega)) (Ev.now _)
theorem lay_many (l : List Int) (hl : 2048 < l.length) : Ev (fun k => frame_Lay.f k l) ([], 5) := by
  unfold frame_Lay.f
  exact ev_ifT (by omega) (Ev.now _)

/-! ### the head -/
def endV (l : List Int) : Int × Int × Int :=
  if l.length ≤ 2 then (0, 0, 4) else if rd l 2 = 1 then
    (if (gt 0 0 (l.drop 3)).2.2 = 0 then (if (gt 0 0 (l.drop 3)).1 > 2048 then (0, 0, 5) else ((gt 0 0 (l.drop 3)).1, 3 + (gt 0 0 (l.drop 3)).2.1, 0)) else (0, 0, (gt 0 0 (l.drop 3)).2.2))
  else (0, 0, 11)
def headV : List Int → Int × Int × Int
  | [] => (0, 0, 4)
  | [a] => if a = 71 then (0, 0, 4) else (0, 0, 3)
  | a :: b :: t => if a = 71 then (if b = 98 then endV (a :: b :: t) else (0, 0, 3)) else (0, 0, 3)
theorem head_end (l : List Int) (hl : l.length ≤ 100000) (hb : Bytes l) (x19 : List Int) (x20 x21 : Int) (h : ¬ x21 < x20) : Ev (fun k => frame_head.l0 k l [71, 98] x19 x20 x21) (endV l) := by
  have e2 : ((([71, 98] : List Int).length : Nat) : Int) = 2 := rfl
  have e3 : wrap64 ((2 : Int) + 1) = 3 := w64 (by decide) (by decide)
  unfold endV
  by_cases h2 : l.length ≤ 2
  · rw [if_pos h2]
    exact Ev.step (f := fun _ => some (0, 0, 4)) (fun q => by rw [frame_head.l0, if_neg h, e2, if_pos (by omega)]) (Ev.now _)
  rw [if_neg h2]
  by_cases h3 : rd l 2 = 1
  · rw [if_pos h3]
    refine Ev.step (f := fun k => (varint_Get.f k (l.drop 3)).bind fun bt161 => if bt161.2.2 = 0 then (if bt161.1 > 2048 then some (0, 0, 5) else some (wrap64 bt161.1, wrap64 (3 + bt161.2.1), 0)) else some (0, 0, bt161.2.2)) (fun q => ?_) ?_
    · rw [frame_head.l0, if_neg h, e2, if_neg (by omega), if_pos (by omega), if_pos (by omega), if_pos h3, e3, if_pos (by omega), if_pos (by omega)]
      rfl
    · refine Ev.bind (get_ev (l.drop 3) (by rw [List.length_drop]; omega) (hb.drop 3)) ?_
      rcases hg : gt 0 0 (l.drop 3) with ⟨n, k, e⟩
      dsimp only
      by_cases he : e = 0
      · subst he
        obtain ⟨g1, g2, g3, g4, g5, g6, g7⟩ := vb_gt0 (hb.drop 3) hg
        rw [List.length_drop] at g7
        refine ev_eq (r := if n > 2048 then (0, 0, 5) else (n, 3 + k, 0)) (ev_ifT rfl ?_) (if_pos rfl).symm
        by_cases h5 : n > 2048
        · exact ev_eq (ev_ifT h5 (Ev.now _)) (if_pos h5).symm
        · refine ev_eq (ev_ifF h5 (ev_some (r := (n, 3 + k, 0)) ?_)) (if_neg h5).symm
          rw [w64 (x := n) (by omega) (by omega), w64 (by omega) (by omega)]
      · exact ev_eq (ev_ifF he (Ev.now _)) (if_neg he).symm
  · rw [if_neg h3]
    exact Ev.step (f := fun _ => some (0, 0, 11)) (fun q => by rw [frame_head.l0, if_neg h, e2, if_neg (by omega), if_pos (by omega), if_pos (by omega), if_neg h3]) (Ev.now _)
theorem head_ev (l : List Int) (hl : l.length ≤ 100000) (hb : Bytes l) : Ev (fun k => frame_head.f k l) (headV l) := by
  unfold frame_head.f
  rw [mark_all]
  simp only [Option.bind_some]
  match l, hl, hb with
  | [], hl, hb =>
    refine ev_ifT (by decide) (ev_ifT (by decide) ?_)
    exact head_end [] hl hb _ _ _ (by decide)
  | [a], hl, hb =>
    have em : mn (([a] : List Int).length : Int) (([71, 98] : List Int).length : Int) = 1 := rfl
    rw [em]
    refine ev_ifT (by decide) (ev_ifT (by simp) ?_)
    show Ev (fun k => frame_head.l0 k [a] [71, 98] [a] 1 0) (headV [a])
    by_cases h : a = 71
    · subst h
      refine Ev.step (f := fun k => frame_head.l0 k [71] [71, 98] [71] 1 1) (fun q => ?_) (head_end [71] hl hb _ _ _ (by decide))
      rw [frame_head.l0, if_pos (by decide), if_pos (by decide), if_pos (by decide), if_pos (by decide), if_pos (by decide), w64 (by decide) (by decide)]; rfl
    · refine Ev.step (f := fun k => some (0, 0, 3)) (fun q => ?_) (ev_some (by rw [headV, if_neg h]))
      rw [frame_head.l0, if_pos (by decide), if_pos (by decide), if_pos (by simp), if_pos (by decide), if_neg (by exact h)]
  | a :: b :: t, hl, hb =>
    have em : mn ((a :: b :: t).length : Int) (([71, 98] : List Int).length : Int) = 2 := by
      unfold mn; simp only [List.length_cons, List.length_nil]; split <;> omega
    rw [em]
    refine ev_ifT (by decide) (ev_ifT (by simp only [List.length_cons]; omega) ?_)
    show Ev (fun k => frame_head.l0 k (a :: b :: t) [71, 98] [a, b] 2 0) (headV (a :: b :: t))
    by_cases h : a = 71
    · subst h
      refine Ev.step (f := fun k => frame_head.l0 k (71 :: b :: t) [71, 98] [71, b] 2 1) (fun q => ?_) ?_
      · rw [frame_head.l0, if_pos (by decide), if_pos (by decide), if_pos (by simp), if_pos (by decide), if_pos (by rfl), w64 (by decide) (by decide)]; rfl
      by_cases h1 : b = 98
      · subst h1
        refine Ev.step (f := fun k => frame_head.l0 k (71 :: 98 :: t) [71, 98] [71, 98] 2 2) (fun q => ?_) (head_end _ hl hb _ _ _ (by decide))
        rw [frame_head.l0, if_pos (by decide), if_pos (by decide), if_pos (by simp), if_pos (by decide), if_pos (by rfl), w64 (by decide) (by decide)]; rfl
      · refine Ev.step (f := fun k => some (0, 0, 3)) (fun q => ?_) (ev_some (by rw [headV, if_pos rfl, if_neg h1]))
        rw [frame_head.l0, if_pos (by decide), if_pos (by decide), if_pos (by simp), if_pos (by decide), if_neg (by exact h1)]
    · refine Ev.step (f := fun k => some (0, 0, 3)) (fun q => ?_) (ev_some (by rw [headV, if_neg h]))
      rw [frame_head.l0, if_pos (by decide), if_pos (by decide), if_pos (by simp), if_pos (by decide), if_neg (by exact h)]
/-- What a good head tells. -/
theorem head_ok {l : List Int} (hb : Bytes l) {n at_ : Int} (h : headV l = (n, at_, 0)) : 0 ≤ n ∧ n ≤ 2048 ∧ 4 ≤ at_ ∧ at_ ≤ l.length ∧ at_ = 3 + (vb n.toNat).length ∧ l.take 3 = [71, 98, 1] ∧ (l.drop 3).take (vb n.toNat).length = vb n.toNat := by
  match l, hb, h with
  | [], _, h => simp [headV] at h
  | [a], _, h => rw [headV] at h; split at h <;> simp at h
  | a :: b :: t, hb, h =>
    rw [headV] at h
    by_cases ha : a = 71
    rotate_left
    · rw [if_neg ha] at h; simp at h
    by_cases hb' : b = 98
    rotate_left
    · rw [if_pos ha, if_neg hb'] at h; simp at h
    subst ha hb'
    rw [if_pos rfl, if_pos rfl] at h
    unfold endV at h
    by_cases h2 : (71 :: 98 :: t).length ≤ 2
    · rw [if_pos h2] at h; simp at h
    rw [if_neg h2] at h
    by_cases h3 : rd (71 :: 98 :: t) 2 = 1
    rotate_left
    · rw [if_neg h3] at h; simp at h
    rw [if_pos h3] at h
    obtain ⟨c, t, rfl⟩ : ∃ c t', t = c :: t' := by
      cases t with
      | nil => simp at h2
      | cons c t => exact ⟨c, t, rfl⟩
    have hc : c = 1 := h3
    subst hc
    rcases hg : gt 0 0 (List.drop 3 (71 :: 98 :: 1 :: t)) with ⟨m, k, e⟩
    rw [hg] at h
    dsimp only at h
    by_cases he : e = 0
    rotate_left
    · rw [if_neg he] at h; simp only [Prod.mk.injEq] at h; exact absurd h.2.2 he
    subst he
    rw [if_pos rfl] at h
    obtain ⟨g1, g2, g3, g4, g5, g6, g7⟩ := vb_gt0 (hb.drop 3) hg
    rw [List.length_drop] at g7
    split at h
    · simp at h
    · simp only [Prod.mk.injEq, and_true] at h
      obtain ⟨rfl, rfl⟩ := h
      exact ⟨by omega, by omega, by omega, by omega, by omega, rfl, g5⟩

/-! ### what is parsed -/
def parseV (l : List Int) : List Int × Int × Int :=
  if (headV l).2.2 = 0 then
    (if (headV l).2.1 + (headV l).1 + 4 > l.length then ([], 0, 4)
     else if (Crc.openV (l.take ((headV l).2.1 + (headV l).1 + 4).toNat)).2 = 0 then ((l.take ((headV l).2.1 + (headV l).1).toNat).drop (headV l).2.1.toNat, (headV l).2.1 + (headV l).1 + 4, 0)
     else ([], 0, (Crc.openV (l.take ((headV l).2.1 + (headV l).1 + 4).toNat)).2))
  else ([], 0, (headV l).2.2)
theorem parse_ev (l : List Int) (hl : l.length ≤ 100000) (hb : Bytes l) : Ev (fun k => frame_Parse.f k l) (parseV l) := by
  unfold frame_Parse.f parseV
  refine Ev.bind (head_ev l hl hb) ?_
  rcases hh : headV l with ⟨n, at_, e⟩
  dsimp only
  by_cases he : e = 0
  rotate_left
  · rw [if_neg he]; exact ev_ifF he (Ev.now _)
  subst he
  obtain ⟨g1, g2, g3, g4, g5, g6, g7⟩ := head_ok hb hh
  rw [if_pos rfl]
  have w1 : wrap64 (at_ + n) = at_ + n := w64 (by omega) (by omega)
  have w2 : wrap64 (at_ + n + 4) = at_ + n + 4 := w64 (by omega) (by omega)
  rw [w1, w2]
  refine ev_ifT rfl ?_
  by_cases h4 : at_ + n + 4 > l.length
  · rw [if_pos h4]; exact ev_ifT h4 (Ev.now _)
  rw [if_neg h4]
  refine ev_ifF h4 (ev_ifT (by omega) (ev_ifT (by omega) ?_))
  refine Ev.bind (Crc.open_ev _ (by rw [List.length_take]; omega)) ?_
  by_cases ho : (Crc.openV (l.take (at_ + n + 4).toNat)).2 = 0
  · refine ev_eq (ev_ifT (r := ((l.take (at_ + n).toNat).drop at_.toNat, at_ + n + 4, 0)) ho ?_) (if_pos ho).symm
    refine (ev_ifT (by omega) (ev_ifT (by omega) (ev_ifT (by omega) ?_)))
    refine Ev.congr (f := fun _ => some ((l.take (at_ + n).toNat).drop at_.toNat, at_ + n + 4, 0)) (fun k => ?_) (Ev.now _)
    rw [bytes_Clone.f, if_pos (by rw [List.length_drop, List.length_take]; omega)]; rfl
  · exact ev_eq (ev_ifF ho (Ev.now _)) (if_neg ho).symm
/-- A head that begins as what is laid does. -/
theorem head_of {l t : List Int} (hl : l.length ≤ 2048) : headV ([71, 98, 1] ++ vb l.length ++ t) = ((l.length : Int), 3 + ((vb l.length).length : Int), 0) := by
  have hd : List.drop 3 (71 :: 98 :: 1 :: (vb l.length ++ t)) = vb l.length ++ t := rfl
  show headV (71 :: 98 :: 1 :: (vb l.length ++ t)) = _
  rw [headV, if_pos rfl, if_pos rfl]
  unfold endV
  rw [if_neg (by simp only [List.length_cons]; omega), if_pos (show rd (71 :: 98 :: 1 :: (vb l.length ++ t)) 2 = 1 from rfl), hd, gt_vb0 t l.length (by omega)]
  dsimp only
  rw [if_pos rfl, if_neg (by omega)]
theorem lay_split (l t : List Int) : layV l ++ t = [71, 98, 1] ++ vb l.length ++ (l ++ (Crc.b4 (Crc.sumV (bodyV l)) ++ t)) := by
  simp [layV, Crc.sealV, bodyV]
theorem parse_lay (l t : List Int) (hl : l.length ≤ 2048) : parseV (layV l ++ t) = (l, ((layV l).length : Int), 0) := by
  have hlen := lay_len l
  have hh : headV (layV l ++ t) = ((l.length : Int), 3 + ((vb l.length).length : Int), 0) := by rw [lay_split]; exact head_of hl
  unfold parseV
  rw [hh]
  dsimp only
  have e1 : (3 + ((vb l.length).length : Int) + (l.length : Int) + 4).toNat = (layV l).length := by omega
  have e2 : (layV l ++ t).take (layV l).length = layV l := List.take_left' rfl
  rw [if_pos rfl, if_neg (by rw [List.length_append]; omega), e1, e2]
  have ho : Crc.openV (layV l) = (bodyV l, 0) := Crc.open_seal _
  rw [ho, if_pos rfl]
  refine Prod.ext ?_ (Prod.ext ?_ rfl)
  · show List.drop (3 + ((vb l.length).length : Int)).toNat (List.take (3 + ((vb l.length).length : Int) + (l.length : Int)).toNat (layV l ++ t)) = l
    have e3 : (3 + ((vb l.length).length : Int) + (l.length : Int)).toNat = (bodyV l).length := by rw [body_len]; omega
    have e4 : (3 + ((vb l.length).length : Int)).toNat = ([71, 98, 1] ++ vb l.length).length := by simp only [List.length_append, List.length_cons, List.length_nil]; omega
    have e5 : layV l ++ t = bodyV l ++ (Crc.b4 (Crc.sumV (bodyV l)) ++ t) := by simp [layV, Crc.sealV]
    rw [e3, e4, e5, List.take_left' rfl]
    exact List.drop_left' rfl
  · show 3 + ((vb l.length).length : Int) + (l.length : Int) + 4 = ((layV l).length : Int)
    omega
theorem one_lay (l : List Int) (hl : l.length ≤ 2048) (hb : Bytes l) : Ev (fun k => frame_One.f k (layV l)) (l, 0) := by
  have hlen := lay_len l
  have hv := vb2 hl
  have hp := parse_ev (layV l) (by omega) (lay_bytes hb)
  have e := parse_lay l [] hl
  rw [List.append_nil] at e
  rw [e] at hp
  unfold frame_One.f
  refine Ev.bind hp ?_
  dsimp only
  exact ev_ifT rfl (ev_ifF (by omega) (Ev.now _))

end Go.Proofs.Ytjpjlloimemcfaa.Frm
