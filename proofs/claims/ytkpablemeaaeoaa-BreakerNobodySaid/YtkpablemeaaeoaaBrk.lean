/- The breaker's methods as functions on one record, and what each call of them does to memory; no condition but those that stand in each. -/
import Derived.Test.YtkpablemeaaeoaaPAx3
import Derived.Test.YtkpablemeaaeoaaBase
namespace Go.Proofs.Ytkpablemeaaeoaa.Brk
set_option linter.unusedVariables false
set_option linter.unusedSimpArgs false
open Go.RowKit Go.Proofs.Ytkpablemeaaeoaa.PA Go.Proofs.YtkpablemeaaeoaaW.PrintWords Go.Proofs.YtkpablemeaaeoaaW.PrintLast Go.Proofs.YtkpablemeaaeoaaW.PrintMore Go.Proofs.Ytkpablemeaaeoaa.Base
attribute [local go_sem] max2_int min2_int max_two min_two max_three min_three max_four min_four
theorem size_alloc (w : World) (o : Obj) : (w.alloc o).heap.size = w.heap.size + 1 := Array.size_push ..
theorem blk_at (w : World) (o : Obj) (g : Nat) (h : w.heap.size = g) : (w.alloc o).heap[g]? = some o := by subst h; exact blk_new w o
structure B where
  (f c m n st fx fm gx gm cl un : Int) (tr : Bool) (nw : Int)
structure R where
  (f c m n st ct cl un : Int) (tr : Bool) (t : Int)
def IsB (w0 W : World) (g : Nat) (s : B) : Prop := IsS49 w0 W g s.f s.c s.m s.n s.st s.fx s.fm s.gx s.gm s.cl s.un s.tr s.nw
def IsR (w0 W : World) (g : Nat) (r : R) : Prop := IsS43 w0 W g r.f r.c r.m r.n r.st r.ct r.cl r.un r.tr r.t
theorem IsB.keep {w0 w w' : World} {g k : Nat} {s : B} (h : IsB w0 w g s) (hk : KeepBut w w' k none) (hn : g ≠ k) : IsB w0 w' g s := ⟨hk.blk h.1 hn (by simp), h.2⟩
theorem IsR.keep {w0 w w' : World} {g k : Nat} {r : R} (h : IsR w0 w g r) (hk : KeepBut w w' k none) (hn : g ≠ k) : IsR w0 w' g r := ⟨hk.blk h.1 hn (by simp), h.2⟩
theorem IsB.below {w0 w w' : World} {g : Nat} {s : B} (h : IsB w0 w g s) (hb : Below w.heap.size w w') : IsB w0 w' g s := IsS49.below h hb
theorem IsR.below {w0 w w' : World} {g : Nat} {r : R} (h : IsR w0 w g r) (hb : Below w.heap.size w w') : IsR w0 w' g r := IsS43.below h hb


def closeV (s : B) : B := { s with st := 0, fx := 0, fm := s.f % 4294967296, cl := s.c, tr := false }
def tick (t a : Int) : Int := if a ≤ 1099511627776 then mx t a else t
def laterV (s : B) (a : Int) : B :=
  if s.st = 1 ∧ s.un ≤ tick s.nw a then { s with st := 2, gx := 0, gm := s.n % 4294967296, tr := false, nw := tick s.nw a } else { s with nw := tick s.nw a }
def up (x m : Int) : Int := (x + (mn 1 ((m - x) % 4294967296))) % 4294967296
def allowV (s : B) (a : Int) : Bool × B :=
  if (laterV s a).st = 0 then (true, laterV s a) else if (laterV s a).st = 2 then (!(laterV s a).tr, { laterV s a with tr := true }) else (false, laterV s a)
def okV (s : B) (a : Int) : B :=
  if (laterV s a).st = 0 then { laterV s a with fx := 0, fm := (laterV s a).f % 4294967296 }
  else if (laterV s a).st = 2 then (if up (laterV s a).gx (laterV s a).gm = (laterV s a).gm then closeV { laterV s a with tr := false, gx := up (laterV s a).gx (laterV s a).gm } else { laterV s a with tr := false, gx := up (laterV s a).gx (laterV s a).gm })
  else laterV s a
def leaveV (s : B) (a : Int) : B := if (laterV s a).st = 2 then { laterV s a with tr := false } else laterV s a
def openV (s : B) : B := { s with st := 1, un := s.nw + s.cl, cl := mn (2 * s.cl) s.m }
def failV (s : B) (a : Int) : B :=
  if (laterV s a).st = 1 then laterV s a
  else if (laterV s a).st = 0 then (if up (laterV s a).fx (laterV s a).fm = (laterV s a).fm then openV { laterV s a with fx := up (laterV s a).fx (laterV s a).fm } else { laterV s a with fx := up (laterV s a).fx (laterV s a).fm })
  else openV (laterV s a)
def rlaterV (r : R) (a : Int) : R :=
  let t := if a > r.t ∧ a ≤ 1099511627776 then a else r.t
  if r.st = 1 ∧ t ≥ r.un then { r with st := 2, ct := 0, tr := false, t := t } else { r with t := t }
def rallowV (r : R) (a : Int) : Bool × R :=
  if (rlaterV r a).st = 2 ∧ (rlaterV r a).tr = false then (true, { rlaterV r a with tr := true }) else ((rlaterV r a).st == 0, rlaterV r a)
def rokV (r : R) (a : Int) : R :=
  if (rlaterV r a).st = 0 then { rlaterV r a with ct := 0 }
  else if (rlaterV r a).st = 2 then (if wrap64 ((rlaterV r a).ct + 1) ≥ (rlaterV r a).n then { rlaterV r a with tr := false, st := 0, ct := 0, cl := (rlaterV r a).c } else { rlaterV r a with tr := false, ct := wrap64 ((rlaterV r a).ct + 1) })
  else rlaterV r a
def rleaveV (r : R) (a : Int) : R := if (rlaterV r a).st = 2 then { rlaterV r a with tr := false } else rlaterV r a
def ropenV (r : R) : R := { r with st := 1, un := r.t + r.cl, cl := mn (2 * r.cl) r.m }
def rfailV (r : R) (a : Int) : R :=
  if (rlaterV r a).st = 1 then rlaterV r a
  else if (rlaterV r a).st = 0 then (if (rlaterV r a).ct + 1 < (rlaterV r a).f then { rlaterV r a with ct := (rlaterV r a).ct + 1 } else ropenV { rlaterV r a with ct := (rlaterV r a).ct + 1 })
  else ropenV (rlaterV r a)

theorem later_f (s : B) (a : Int) : breaker_Breaker_later.f s.f s.c s.m s.n s.st s.fx s.fm s.gx s.gm s.cl s.un s.tr s.nw a = some ((laterV s a).f, (laterV s a).c, (laterV s a).m, (laterV s a).n, (laterV s a).st, (laterV s a).fx, (laterV s a).fm, (laterV s a).gx, (laterV s a).gm, (laterV s a).cl, (laterV s a).un, (laterV s a).tr, (laterV s a).nw) := by
  unfold breaker_Breaker_later.f laterV tick
  simp only [sat_NewCounter.f, Option.bind_some]
  by_cases h1 : a ≤ 1099511627776 <;> by_cases h2 : s.st = 1 <;> simp only [h1, h2, if_true, if_false, true_and, false_and]
  all_goals first | rfl | (split <;> rfl)

theorem state_f (s : B) (a : Int) (hf : 0 < s.f) : breaker_Breaker_State.f s.f s.c s.m s.n s.st s.fx s.fm s.gx s.gm s.cl s.un s.tr s.nw a = some ((laterV s a).st, (laterV s a).f, (laterV s a).c, (laterV s a).m, (laterV s a).n, (laterV s a).st, (laterV s a).fx, (laterV s a).fm, (laterV s a).gx, (laterV s a).gm, (laterV s a).cl, (laterV s a).un, (laterV s a).tr, (laterV s a).nw) := by
  unfold breaker_Breaker_State.f
  simp only [breaker_Breaker_ok.f, Option.bind_some, decide_eq_true (show s.f > 0 from hf), if_true, later_f]

theorem allow_f (s : B) (a : Int) (hf : 0 < s.f) : breaker_Breaker_Allow.f s.f s.c s.m s.n s.st s.fx s.fm s.gx s.gm s.cl s.un s.tr s.nw a = some ((allowV s a).1, ((allowV s a).2).f, ((allowV s a).2).c, ((allowV s a).2).m, ((allowV s a).2).n, ((allowV s a).2).st, ((allowV s a).2).fx, ((allowV s a).2).fm, ((allowV s a).2).gx, ((allowV s a).2).gm, ((allowV s a).2).cl, ((allowV s a).2).un, ((allowV s a).2).tr, ((allowV s a).2).nw) := by
  unfold breaker_Breaker_Allow.f allowV
  simp only [breaker_Breaker_ok.f, Option.bind_some, decide_eq_true (show s.f > 0 from hf), if_true, state_f s a hf]
  split
  · rfl
  · split <;> rfl

theorem okm_f (s : B) (a : Int) (hf : 0 < s.f) : breaker_Breaker_OK.f s.f s.c s.m s.n s.st s.fx s.fm s.gx s.gm s.cl s.un s.tr s.nw a = some ((okV s a).f, (okV s a).c, (okV s a).m, (okV s a).n, (okV s a).st, (okV s a).fx, (okV s a).fm, (okV s a).gx, (okV s a).gm, (okV s a).cl, (okV s a).un, (okV s a).tr, (okV s a).nw) := by
  unfold breaker_Breaker_OK.f okV
  simp only [breaker_Breaker_ok.f, Option.bind_some, decide_eq_true (show s.f > 0 from hf), if_true, state_f s a hf]
  simp only [sat_NewCounter.f, sat_Counter_Up.f, sat_Counter_Full.f, breaker_Breaker_close.f, Option.bind_some, beq_iff_eq]
  split
  · rfl
  · split
    · show (if up (laterV s a).gx (laterV s a).gm = (laterV s a).gm then _ else _) = _
      split <;> rfl
    · rfl

theorem leave_f (s : B) (a : Int) (hf : 0 < s.f) : breaker_Breaker_Leave.f s.f s.c s.m s.n s.st s.fx s.fm s.gx s.gm s.cl s.un s.tr s.nw a = some ((leaveV s a).f, (leaveV s a).c, (leaveV s a).m, (leaveV s a).n, (leaveV s a).st, (leaveV s a).fx, (leaveV s a).fm, (leaveV s a).gx, (leaveV s a).gm, (leaveV s a).cl, (leaveV s a).un, (leaveV s a).tr, (leaveV s a).nw) := by
  unfold breaker_Breaker_Leave.f leaveV
  simp only [breaker_Breaker_ok.f, Option.bind_some, decide_eq_true (show s.f > 0 from hf), if_true, state_f s a hf]
  split <;> rfl

theorem reset_f (s : B) (hf : 0 < s.f) : breaker_Breaker_Reset.f s.f s.c s.m s.n s.st s.fx s.fm s.gx s.gm s.cl s.un s.tr s.nw = some ((closeV s).f, (closeV s).c, (closeV s).m, (closeV s).n, (closeV s).st, (closeV s).fx, (closeV s).fm, (closeV s).gx, (closeV s).gm, (closeV s).cl, (closeV s).un, (closeV s).tr, (closeV s).nw) := by
  unfold breaker_Breaker_Reset.f
  simp only [breaker_Breaker_ok.f, Option.bind_some, decide_eq_true (show s.f > 0 from hf), if_true, breaker_Breaker_close.f, sat_NewCounter.f]
  rfl
theorem cool_f (s : B) (hf : 0 < s.f) : breaker_Breaker_Cool.f s.f s.c s.m s.n s.st s.fx s.fm s.gx s.gm s.cl s.un s.tr s.nw = some (s.cl, (s).f, (s).c, (s).m, (s).n, (s).st, (s).fx, (s).fm, (s).gx, (s).gm, (s).cl, (s).un, (s).tr, (s).nw) := by
  unfold breaker_Breaker_Cool.f
  simp only [breaker_Breaker_ok.f, Option.bind_some, decide_eq_true (show s.f > 0 from hf), if_true]
theorem now_f (s : B) (hf : 0 < s.f) : breaker_Breaker_Now.f s.f s.c s.m s.n s.st s.fx s.fm s.gx s.gm s.cl s.un s.tr s.nw = some (s.nw, (s).f, (s).c, (s).m, (s).n, (s).st, (s).fx, (s).fm, (s).gx, (s).gm, (s).cl, (s).un, (s).tr, (s).nw) := by
  unfold breaker_Breaker_Now.f
  simp only [breaker_Breaker_ok.f, Option.bind_some, decide_eq_true (show s.f > 0 from hf), if_true]

theorem close_c (g : Nat) (s : B) (w0 w : World) (hI : IsB w0 w g s) (hB : Below w0.heap.size w0 w) :
    Calls Try.prog 26 #[.pointer (some ⟨g, 0, none⟩)] w fun e w' => e = .returned (.tuple #[]) ∧ IsB w0 w' g (closeV s) ∧ Below w0.heap.size w0 w' ∧ KeepBut w w' g none :=
  breaker_Breaker_close.calls g s.f s.c s.m s.n s.st s.fx s.fm s.gx s.gm s.cl s.un s.tr s.nw ((closeV s)).f ((closeV s)).c ((closeV s)).m ((closeV s)).n ((closeV s)).st ((closeV s)).fx ((closeV s)).fm ((closeV s)).gx ((closeV s)).gm ((closeV s)).cl ((closeV s)).un ((closeV s)).tr ((closeV s)).nw w0 w hI hB (rfl)
theorem later_c (g : Nat) (s : B) (a : Int) (w0 w : World) (hI : IsB w0 w g s) (hB : Below w0.heap.size w0 w) :
    Calls Try.prog 28 #[.pointer (some ⟨g, 0, none⟩), .int .i64 a] w fun e w' => e = .returned (.tuple #[]) ∧ IsB w0 w' g (laterV s a) ∧ Below w0.heap.size w0 w' ∧ KeepBut w w' g none :=
  breaker_Breaker_later.calls g s.f s.c s.m s.n s.st s.fx s.fm s.gx s.gm s.cl s.un s.tr s.nw a ((laterV s a)).f ((laterV s a)).c ((laterV s a)).m ((laterV s a)).n ((laterV s a)).st ((laterV s a)).fx ((laterV s a)).fm ((laterV s a)).gx ((laterV s a)).gm ((laterV s a)).cl ((laterV s a)).un ((laterV s a)).tr ((laterV s a)).nw w0 w hI hB (later_f s a)
theorem state_c (g : Nat) (s : B) (a : Int) (hf : 0 < s.f) (w0 w : World) (hI : IsB w0 w g s) (hB : Below w0.heap.size w0 w) :
    Calls Try.prog 11 #[.pointer (some ⟨g, 0, none⟩), .int .i64 a] w fun e w' => e = .returned (.int .i64 (laterV s a).st) ∧ IsB w0 w' g (laterV s a) ∧ Below w0.heap.size w0 w' ∧ KeepBut w w' g none :=
  breaker_Breaker_State.calls g s.f s.c s.m s.n s.st s.fx s.fm s.gx s.gm s.cl s.un s.tr s.nw a (laterV s a).st ((laterV s a)).f ((laterV s a)).c ((laterV s a)).m ((laterV s a)).n ((laterV s a)).st ((laterV s a)).fx ((laterV s a)).fm ((laterV s a)).gx ((laterV s a)).gm ((laterV s a)).cl ((laterV s a)).un ((laterV s a)).tr ((laterV s a)).nw w0 w hI hB (state_f s a hf)
theorem allow_c (g : Nat) (s : B) (a : Int) (hf : 0 < s.f) (w0 w : World) (hI : IsB w0 w g s) (hB : Below w0.heap.size w0 w) :
    Calls Try.prog 12 #[.pointer (some ⟨g, 0, none⟩), .int .i64 a] w fun e w' => e = .returned (.bool (allowV s a).1) ∧ IsB w0 w' g (allowV s a).2 ∧ Below w0.heap.size w0 w' ∧ KeepBut w w' g none :=
  breaker_Breaker_Allow.calls g s.f s.c s.m s.n s.st s.fx s.fm s.gx s.gm s.cl s.un s.tr s.nw a (allowV s a).1 ((allowV s a).2).f ((allowV s a).2).c ((allowV s a).2).m ((allowV s a).2).n ((allowV s a).2).st ((allowV s a).2).fx ((allowV s a).2).fm ((allowV s a).2).gx ((allowV s a).2).gm ((allowV s a).2).cl ((allowV s a).2).un ((allowV s a).2).tr ((allowV s a).2).nw w0 w hI hB (allow_f s a hf)
theorem okm_c (g : Nat) (s : B) (a : Int) (hf : 0 < s.f) (w0 w : World) (hI : IsB w0 w g s) (hB : Below w0.heap.size w0 w) :
    Calls Try.prog 13 #[.pointer (some ⟨g, 0, none⟩), .int .i64 a] w fun e w' => e = .returned (.tuple #[]) ∧ IsB w0 w' g (okV s a) ∧ Below w0.heap.size w0 w' ∧ KeepBut w w' g none :=
  breaker_Breaker_OK.calls g s.f s.c s.m s.n s.st s.fx s.fm s.gx s.gm s.cl s.un s.tr s.nw a ((okV s a)).f ((okV s a)).c ((okV s a)).m ((okV s a)).n ((okV s a)).st ((okV s a)).fx ((okV s a)).fm ((okV s a)).gx ((okV s a)).gm ((okV s a)).cl ((okV s a)).un ((okV s a)).tr ((okV s a)).nw w0 w hI hB (okm_f s a hf)
theorem leave_c (g : Nat) (s : B) (a : Int) (hf : 0 < s.f) (w0 w : World) (hI : IsB w0 w g s) (hB : Below w0.heap.size w0 w) :
    Calls Try.prog 15 #[.pointer (some ⟨g, 0, none⟩), .int .i64 a] w fun e w' => e = .returned (.tuple #[]) ∧ IsB w0 w' g (leaveV s a) ∧ Below w0.heap.size w0 w' ∧ KeepBut w w' g none :=
  breaker_Breaker_Leave.calls g s.f s.c s.m s.n s.st s.fx s.fm s.gx s.gm s.cl s.un s.tr s.nw a ((leaveV s a)).f ((leaveV s a)).c ((leaveV s a)).m ((leaveV s a)).n ((leaveV s a)).st ((leaveV s a)).fx ((leaveV s a)).fm ((leaveV s a)).gx ((leaveV s a)).gm ((leaveV s a)).cl ((leaveV s a)).un ((leaveV s a)).tr ((leaveV s a)).nw w0 w hI hB (leave_f s a hf)
theorem reset_c (g : Nat) (s : B) (hf : 0 < s.f) (w0 w : World) (hI : IsB w0 w g s) (hB : Below w0.heap.size w0 w) :
    Calls Try.prog 24 #[.pointer (some ⟨g, 0, none⟩)] w fun e w' => e = .returned (.tuple #[]) ∧ IsB w0 w' g (closeV s) ∧ Below w0.heap.size w0 w' ∧ KeepBut w w' g none :=
  breaker_Breaker_Reset.calls g s.f s.c s.m s.n s.st s.fx s.fm s.gx s.gm s.cl s.un s.tr s.nw ((closeV s)).f ((closeV s)).c ((closeV s)).m ((closeV s)).n ((closeV s)).st ((closeV s)).fx ((closeV s)).fm ((closeV s)).gx ((closeV s)).gm ((closeV s)).cl ((closeV s)).un ((closeV s)).tr ((closeV s)).nw w0 w hI hB (reset_f s hf)
theorem cool_c (g : Nat) (s : B) (hf : 0 < s.f) (w0 w : World) (hI : IsB w0 w g s) (hB : Below w0.heap.size w0 w) :
    Calls Try.prog 16 #[.pointer (some ⟨g, 0, none⟩)] w fun e w' => e = .returned (.int .i64 s.cl) ∧ IsB w0 w' g s ∧ Below w0.heap.size w0 w' ∧ KeepBut w w' g none :=
  breaker_Breaker_Cool.calls g s.f s.c s.m s.n s.st s.fx s.fm s.gx s.gm s.cl s.un s.tr s.nw s.cl (s).f (s).c (s).m (s).n (s).st (s).fx (s).fm (s).gx (s).gm (s).cl (s).un (s).tr (s).nw w0 w hI hB (cool_f s hf)
theorem now_c (g : Nat) (s : B) (hf : 0 < s.f) (w0 w : World) (hI : IsB w0 w g s) (hB : Below w0.heap.size w0 w) :
    Calls Try.prog 25 #[.pointer (some ⟨g, 0, none⟩)] w fun e w' => e = .returned (.int .i64 s.nw) ∧ IsB w0 w' g s ∧ Below w0.heap.size w0 w' ∧ KeepBut w w' g none :=
  breaker_Breaker_Now.calls g s.f s.c s.m s.n s.st s.fx s.fm s.gx s.gm s.cl s.un s.tr s.nw s.nw (s).f (s).c (s).m (s).n (s).st (s).fx (s).fm (s).gx (s).gm (s).cl (s).un (s).tr (s).nw w0 w hI hB (now_f s hf)
theorem rlater_f (r : R) (a : Int) (k : Nat) : garboardref22_Breaker_Later.f (k + 1) r.f r.c r.m r.n r.st r.ct r.cl r.un r.tr r.t a = some ((rlaterV r a).f, (rlaterV r a).c, (rlaterV r a).m, (rlaterV r a).n, (rlaterV r a).st, (rlaterV r a).ct, (rlaterV r a).cl, (rlaterV r a).un, (rlaterV r a).tr, (rlaterV r a).t) := by
  unfold garboardref22_Breaker_Later.f rlaterV
  by_cases h1 : a > r.t <;> by_cases h2 : a ≤ 1099511627776 <;> by_cases h3 : r.st = 1 <;> by_cases h4 : a ≥ r.un <;> by_cases h5 : r.t ≥ r.un <;>
    simp only [garboardref22_Breaker_Later.j0, h1, h2, h3, h4, h5, decide_true, decide_false, if_true, if_false, and_self, and_true, true_and, and_false, false_and, Bool.false_eq_true]
theorem rallow_f (r : R) (a : Int) : garboardref22_Breaker_Allow.f 1 r.f r.c r.m r.n r.st r.ct r.cl r.un r.tr r.t a = some ((rallowV r a).1, ((rallowV r a).2).f, ((rallowV r a).2).c, ((rallowV r a).2).m, ((rallowV r a).2).n, ((rallowV r a).2).st, ((rallowV r a).2).ct, ((rallowV r a).2).cl, ((rallowV r a).2).un, ((rallowV r a).2).tr, ((rallowV r a).2).t) := by
  unfold garboardref22_Breaker_Allow.f rallowV
  simp only [rlater_f, Option.bind_some]
  by_cases h1 : (rlaterV r a).st = 2 <;> by_cases h2 : (rlaterV r a).tr = true <;> simp [h1, h2]
theorem rok_f (r : R) (a : Int) : garboardref22_Breaker_OK.f 1 r.f r.c r.m r.n r.st r.ct r.cl r.un r.tr r.t a = some ((rokV r a).f, (rokV r a).c, (rokV r a).m, (rokV r a).n, (rokV r a).st, (rokV r a).ct, (rokV r a).cl, (rokV r a).un, (rokV r a).tr, (rokV r a).t) := by
  unfold garboardref22_Breaker_OK.f rokV
  simp only [rlater_f, Option.bind_some]
  split
  · rfl
  · split
    · split <;> rfl
    · rfl
theorem rleave_f (r : R) (a : Int) : garboardref22_Breaker_Leave.f 1 r.f r.c r.m r.n r.st r.ct r.cl r.un r.tr r.t a = some ((rleaveV r a).f, (rleaveV r a).c, (rleaveV r a).m, (rleaveV r a).n, (rleaveV r a).st, (rleaveV r a).ct, (rleaveV r a).cl, (rleaveV r a).un, (rleaveV r a).tr, (rleaveV r a).t) := by
  unfold garboardref22_Breaker_Leave.f rleaveV
  simp only [rlater_f, Option.bind_some]
  split <;> rfl

theorem rlater_c (g : Nat) (r : R) (a : Int) (w0 w : World) (hI : IsR w0 w g r) (hB : Below w0.heap.size w0 w) :
    Calls Try.prog 22 #[.pointer (some ⟨g, 0, none⟩), .int .i64 a] w fun e w' => e = .returned (.tuple #[]) ∧ IsR w0 w' g (rlaterV r a) ∧ Below w0.heap.size w0 w' ∧ KeepBut w w' g none :=
  garboardref22_Breaker_Later.calls 1 g r.f r.c r.m r.n r.st r.ct r.cl r.un r.tr r.t a ((rlaterV r a)).f ((rlaterV r a)).c ((rlaterV r a)).m ((rlaterV r a)).n ((rlaterV r a)).st ((rlaterV r a)).ct ((rlaterV r a)).cl ((rlaterV r a)).un ((rlaterV r a)).tr ((rlaterV r a)).t w0 w hI hB (rlater_f r a 0)
theorem rallow_c (g : Nat) (r : R) (a : Int) (w0 w : World) (hI : IsR w0 w g r) (hB : Below w0.heap.size w0 w) :
    Calls Try.prog 19 #[.pointer (some ⟨g, 0, none⟩), .int .i64 a] w fun e w' => e = .returned (.bool (rallowV r a).1) ∧ IsR w0 w' g (rallowV r a).2 ∧ Below w0.heap.size w0 w' ∧ KeepBut w w' g none :=
  garboardref22_Breaker_Allow.calls 1 g r.f r.c r.m r.n r.st r.ct r.cl r.un r.tr r.t a (rallowV r a).1 ((rallowV r a).2).f ((rallowV r a).2).c ((rallowV r a).2).m ((rallowV r a).2).n ((rallowV r a).2).st ((rallowV r a).2).ct ((rallowV r a).2).cl ((rallowV r a).2).un ((rallowV r a).2).tr ((rallowV r a).2).t w0 w hI hB (rallow_f r a)
theorem rok_c (g : Nat) (r : R) (a : Int) (w0 w : World) (hI : IsR w0 w g r) (hB : Below w0.heap.size w0 w) :
    Calls Try.prog 20 #[.pointer (some ⟨g, 0, none⟩), .int .i64 a] w fun e w' => e = .returned (.tuple #[]) ∧ IsR w0 w' g (rokV r a) ∧ Below w0.heap.size w0 w' ∧ KeepBut w w' g none :=
  garboardref22_Breaker_OK.calls 1 g r.f r.c r.m r.n r.st r.ct r.cl r.un r.tr r.t a ((rokV r a)).f ((rokV r a)).c ((rokV r a)).m ((rokV r a)).n ((rokV r a)).st ((rokV r a)).ct ((rokV r a)).cl ((rokV r a)).un ((rokV r a)).tr ((rokV r a)).t w0 w hI hB (rok_f r a)
theorem rleave_c (g : Nat) (r : R) (a : Int) (w0 w : World) (hI : IsR w0 w g r) (hB : Below w0.heap.size w0 w) :
    Calls Try.prog 23 #[.pointer (some ⟨g, 0, none⟩), .int .i64 a] w fun e w' => e = .returned (.tuple #[]) ∧ IsR w0 w' g (rleaveV r a) ∧ Below w0.heap.size w0 w' ∧ KeepBut w w' g none :=
  garboardref22_Breaker_Leave.calls 1 g r.f r.c r.m r.n r.st r.ct r.cl r.un r.tr r.t a ((rleaveV r a)).f ((rleaveV r a)).c ((rleaveV r a)).m ((rleaveV r a)).n ((rleaveV r a)).st ((rleaveV r a)).ct ((rleaveV r a)).cl ((rleaveV r a)).un ((rleaveV r a)).tr ((rleaveV r a)).t w0 w hI hB (rleave_f r a)
set_option maxHeartbeats 1000000 in
set_option maxRecDepth 100000 in
theorem New.ok (f c m n : Int) (h1 : 1 ≤ f) (h2 : f ≤ 1000) (h3 : 1 ≤ n) (h4 : n ≤ 1000) (h5 : 1 ≤ c) (h6 : c ≤ m) (h7 : m ≤ 4294967296) (w : World) :
    Calls Try.prog 7 #[.agg #[.int .i64 f, .int .i64 c, .int .i64 m, .int .i64 n]] w fun e w' => ∃ g, e = .returned (.tuple #[.pointer (some ⟨g, 0, none⟩), .int .i64 0]) ∧ IsB w w' g ⟨f, c, m, n, 0, 0, f, 0, 0, c, 0, false, 0⟩ ∧ Below w.heap.size w w' := by
  have hcl : breaker_Breaker_close.f f c m n 0 0 0 0 0 0 0 false 0 = some (f, c, m, n, 0, 0, f, 0, 0, c, 0, false, 0) := by
    simp only [breaker_Breaker_close.f, sat_NewCounter.f, Option.bind_some, Option.some.injEq, Prod.mk.injEq, and_true, true_and]; omega
  have HC := Aside0.mk hcl
  clear hcl
  go_enter Try.func7, Try.ntmps7
  go_wp2_with (go_at_call 26; (with_reducible refine (breaker_Breaker_close.calls _ f c m n 0 0 0 0 0 0 0 false 0 f c m n 0 0 f 0 0 c 0 false 0 w _ ?side1 ?side2 HC.out).mono ?_); (case side1 => exact ⟨blk_at _ _ _ (size_alloc _ _), by omega⟩); (case side2 => exact below_alloc (below_alloc (Below.refl _ _) _) _); rintro e w9 ⟨rfl, hi, hb, hk⟩; have HI := Aside0.mk hi; have HB := Aside0.mk hb; clear hi hb hk)
  go_ret2
  exact ⟨_, rfl, HI.out, HB.out⟩
theorem New.no (f c m n : Int) (h : ¬ (1 ≤ f ∧ f ≤ 1000 ∧ 1 ≤ n ∧ n ≤ 1000 ∧ 1 ≤ c ∧ c ≤ m ∧ m ≤ 4294967296)) (w : World) :
    Calls Try.prog 7 #[.agg #[.int .i64 f, .int .i64 c, .int .i64 m, .int .i64 n]] w fun e w' => e = .returned (.tuple #[.pointer none, .int .i64 1]) ∧ Below w.heap.size w w' := by
  have H : f < 1 ∨ (1 ≤ f ∧ 1000 < f) ∨ (1 ≤ f ∧ f ≤ 1000 ∧ n < 1) ∨ (1 ≤ f ∧ f ≤ 1000 ∧ 1 ≤ n ∧ 1000 < n) ∨ (1 ≤ f ∧ f ≤ 1000 ∧ 1 ≤ n ∧ n ≤ 1000 ∧ c < 1) ∨ (1 ≤ f ∧ f ≤ 1000 ∧ 1 ≤ n ∧ n ≤ 1000 ∧ 1 ≤ c ∧ m < c) ∨ (1 ≤ f ∧ f ≤ 1000 ∧ 1 ≤ n ∧ n ≤ 1000 ∧ 1 ≤ c ∧ c ≤ m ∧ 4294967296 < m) := by omega
  clear h
  rcases H with h | ⟨a, h⟩ | ⟨a, b, h⟩ | ⟨a, b, d, h⟩ | ⟨a, b, d, e, h⟩ | ⟨a, b, d, e, i, h⟩ | ⟨a, b, d, e, i, j, h⟩
  all_goals
    go_enter Try.func7, Try.ntmps7
    go_wp2_with fail
    go_ret2
    exact ⟨rfl, below_alloc (Below.refl _ _) _⟩

end Go.Proofs.Ytkpablemeaaeoaa.Brk
