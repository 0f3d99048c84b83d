/-
  The abstract machine, part 18: a region that draws its order.
-/
import Derived.Test.YtbllbkhkmngclaaVm17
namespace Go.Vm
open Go Go.RowKit

/-- the operations ahead of the tail, one behind the other -/
def aQs (P : Program) : List AI → (Env → Heap → Prop) → Env → Heap → Prop
  | [], K => K
  | i :: is, K => fun env H => match i.guard with
    | none => aQop P i.op (fun s H' => aQs P is K (putD i.dst s env) H') env H (CallQ P)
    | some (t, b) => match env.get t with
      | .pure (.bool c) => (c = b → aQop P i.op (fun s H' => aQs P is K (putD i.dst s env) H') env H (CallQ P)) ∧ (c = !b → aQs P is K (putD i.dst (.tup []) env) H)
      | .tup [] => aQs P is K (putD i.dst (.tup []) env) H
      | _ => False

structure QI where
  s : S
  row : Option Row
  wanted : Bool
  deriving Inhabited
def QOk (P : Program) (i : AI) (env : Env) (H : Heap) (q : QI) : Prop :=
  match i.guard with
  | none => q.wanted = true ∧ QV P env H H.length i.op q.s q.row
  | some (t, b) => (env.get t = .tup [] ∧ q.s = .tup [] ∧ q.row = none) ∨ ∃ c, env.get t = .pure (.bool c) ∧ ((c = b ∧ q.wanted = true ∧ QV P env H H.length i.op q.s q.row) ∨ (c = (!b) ∧ q.wanted = false ∧ q.s = .tup [] ∧ q.row = none))
def QRun (P : Program) : List AI → List QI → Env → Heap → Prop
  | [], [], _, _ => True
  | i :: is, q :: qs, env, H => QOk P i env H q ∧ QRun P is qs (putD i.dst q.s env) (H ++ q.row.toList)
  | _, _, _, _ => False
def envOf : List AI → List QI → Env → Env
  | i :: is, q :: qs, env => envOf is qs (putD i.dst q.s env)
  | _, _, env => env
def heapOf : List QI → Heap → Heap
  | q :: qs, H => heapOf qs (H ++ q.row.toList)
  | [], H => H

theorem aQs_inv {P : Program} : ∀ (is : List AI) {K : Env → Heap → Prop} {env : Env} {H : Heap}, aQs P is K env H → ∃ qs, QRun P is qs env H ∧ K (envOf is qs env) (heapOf qs H)
  | [], K, env, H, h => ⟨[], trivial, h⟩
  | i :: is, K, env, H, h => by
    have run : aQop P i.op (fun s H' => aQs P is K (putD i.dst s env) H') env H (CallQ P) → ∃ q : QI, q.wanted = true ∧ QV P env H H.length i.op q.s q.row ∧ aQs P is K (putD i.dst q.s env) (H ++ q.row.toList) := by
      intro hq
      obtain ⟨s, row, h1, h2⟩ := aQop_inv hq
      exact ⟨⟨s, row, true⟩, rfl, h1, h2⟩
    simp only [aQs] at h
    split at h
    · rename_i hg
      obtain ⟨q, h1, h2, h3⟩ := run h
      obtain ⟨qs, h4, h5⟩ := aQs_inv is h3
      exact ⟨q :: qs, ⟨by simp only [QOk, hg]; exact ⟨h1, h2⟩, h4⟩, h5⟩
    · rename_i t b hg
      split at h
      · rename_i c he
        by_cases hcb : c = b
        · obtain ⟨q, h1, h2, h3⟩ := run (h.1 hcb)
          obtain ⟨qs, h4, h5⟩ := aQs_inv is h3
          exact ⟨q :: qs, ⟨by simp only [QOk, hg]; exact .inr ⟨c, he, .inl ⟨hcb, h1, h2⟩⟩, h4⟩, h5⟩
        · have hc' : c = !b := by cases c <;> cases b <;> simp_all
          obtain ⟨qs, h4, h5⟩ := aQs_inv is (h.2 hc')
          refine ⟨⟨.tup [], none, false⟩ :: qs, ⟨by unfold QOk; rw [hg]; exact .inr ⟨c, he, .inr ⟨hc', rfl, rfl, rfl⟩⟩, ?_⟩, ?_⟩
          · simpa using h4
          · simpa [envOf, heapOf] using h5
      · rename_i he
        obtain ⟨qs, h4, h5⟩ := aQs_inv is h
        refine ⟨⟨.tup [], none, false⟩ :: qs, ⟨by unfold QOk; rw [hg]; exact .inl ⟨he, rfl, rfl⟩, ?_⟩, ?_⟩
        · simpa using h4
        · simpa [envOf, heapOf] using h5
      · exact h.elim

theorem QRun.len {P : Program} : ∀ {is : List AI} {qs : List QI} {env : Env} {H : Heap}, QRun P is qs env H → is.length = qs.length
  | [], [], _, _, _ => rfl
  | [], _ :: _, _, _, h => h.elim
  | _ :: _, [], _, _, h => h.elim
  | i :: is, q :: qs, _, _, h => by simp [QRun.len h.2]

/-- the state ahead of operation number k -/
theorem QRun.at {P : Program} : ∀ {is : List AI} {qs : List QI} {env : Env} {H : Heap}, QRun P is qs env H → ∀ {k : Nat} {i : AI} {q : QI}, is[k]? = some i → qs[k]? = some q → QOk P i (envOf (is.take k) (qs.take k) env) (heapOf (qs.take k) H) q
  | [], [], _, _, _, k, i, q, h, _ => by simp at h
  | [], _ :: _, _, _, h, _, _, _, _, _ => h.elim
  | _ :: _, [], _, _, h, _, _, _, _, _ => h.elim
  | i0 :: is, q0 :: qs, env, H, h, k, i, q, hi, hq => by
    cases k with
    | zero => simp at hi hq; subst hi hq; exact h.1
    | succ k => exact QRun.at h.2 (by simpa using hi) (by simpa using hq)

theorem putD_get (d : Option Nat) (s : S) (env : Env) (t : Nat) : (putD d s env).get t = if d = some t then s else env.get t := by
  cases d with
  | none => simp [putD]
  | some d => simp only [putD, Env.get_cons, Option.some.injEq]

/-- a slot that none of the operations writes -/
theorem envOf_other : ∀ (is : List AI) (qs : List QI) (env : Env) (t : Nat), (∀ i ∈ is, i.dst ≠ some t) → (envOf is qs env).get t = env.get t
  | [], _, _, _, _ => rfl
  | _ :: _, [], _, _, _ => rfl
  | i :: is, q :: qs, env, t, h => by
    simp only [envOf]
    rw [envOf_other is qs _ t (fun j hj => h j (by simp [hj])), putD_get, if_neg (h i (by simp))]
/-- a slot that one operation writes, and no later one -/
theorem envOf_at : ∀ (is : List AI) (qs : List QI) (env : Env) (t k : Nat) (i : AI) (q : QI), is[k]? = some i → qs[k]? = some q → i.dst = some t → (∀ j i', k < j → is[j]? = some i' → i'.dst ≠ some t) → (envOf is qs env).get t = q.s
  | [], _, _, _, _, _, _, h, _, _, _ => by simp at h
  | _ :: _, [], _, _, _, _, _, _, h, _, _ => by simp at h
  | i0 :: is, q0 :: qs, env, t, k, i, q, hi, hq, hd, hl => by
    simp only [envOf]
    cases k with
    | zero =>
      simp at hi hq
      subst hi hq
      rw [envOf_other is qs _ t (fun j hj => by
        obtain ⟨m, hm, rfl⟩ := List.mem_iff_getElem.1 hj
        exact hl (m + 1) _ (by omega) (by simp [List.getElem?_eq_getElem hm])), putD_get, if_pos hd]
    | succ k => exact envOf_at is qs _ t k i q (by simpa using hi) (by simpa using hq) hd (fun j i' hj hi' => hl (j + 1) i' (by omega) (by simpa using hi'))

theorem heapOf_append : ∀ (qs : List QI) (H : Heap), ∃ R, heapOf qs H = H ++ R ∧ ∀ r ∈ R, True
  | [], H => ⟨[], by simp [heapOf]⟩
  | q :: qs, H => by
    obtain ⟨R, h, _⟩ := heapOf_append qs (H ++ q.row.toList)
    exact ⟨q.row.toList ++ R, by rw [heapOf, h, List.append_assoc], fun _ _ => trivial⟩
theorem heapOf_take {qs : List QI} {H : Heap} (k : Nat) : ∃ R, heapOf qs H = heapOf (qs.take k) H ++ R := by
  induction qs generalizing k H with
  | nil => exact ⟨[], by simp [heapOf]⟩
  | cons q qs ih =>
    cases k with
    | zero =>
      obtain ⟨R, h, _⟩ := heapOf_append (q :: qs) H
      exact ⟨R, by rw [h]; simp [heapOf]⟩
    | succ k =>
      obtain ⟨R, h⟩ := ih (H := H ++ q.row.toList) k
      exact ⟨R, by simp only [heapOf, List.take_succ_cons]; exact h⟩
theorem heapOf_pre {qs : List QI} {H : Heap} (k : Nat) {b : Nat} {r : Row} (h : (heapOf (qs.take k) H)[b]? = some r) : (heapOf qs H)[b]? = some r := by
  obtain ⟨R, hR⟩ := heapOf_take (qs := qs) (H := H) k
  rw [hR, List.getElem?_append_left (List.getElem?_eq_some_iff.1 h).1]
  exact h
theorem heapOf_succ {qs : List QI} {H : Heap} {k : Nat} {q : QI} (hq : qs[k]? = some q) : heapOf (qs.take (k + 1)) H = heapOf (qs.take k) H ++ q.row.toList := by
  induction qs generalizing k H with
  | nil => simp at hq
  | cons q0 qs ih =>
    cases k with
    | zero => simp at hq; subst hq; simp [heapOf]
    | succ k => simp only [List.take_succ_cons, heapOf]; exact ih (by simpa using hq)
/-- the name of the row that operation k makes -/
def nameAt (qs : List QI) (H : Heap) (k : Nat) : Nat := (heapOf (qs.take k) H).length
theorem nameAt_mono {qs : List QI} {H : Heap} {j k : Nat} {q : QI} (hq : qs[j]? = some q) (hr : q.row.isSome = true) (h : j < k) : nameAt qs H j < nameAt qs H k := by
  have h1 : nameAt qs H (j + 1) = nameAt qs H j + 1 := by
    unfold nameAt
    rw [heapOf_succ hq]
    obtain ⟨r, hr⟩ := Option.isSome_iff_exists.1 hr
    simp [hr]
  have h2 : nameAt qs H (j + 1) ≤ nameAt qs H k := by
    unfold nameAt
    have : qs.take (j + 1) = (qs.take k).take (j + 1) := by rw [List.take_take, Nat.min_eq_left (by omega)]
    rw [this]
    obtain ⟨R, hR⟩ := heapOf_take (qs := qs.take k) (H := H) (j + 1)
    rw [hR]
    simp
  omega
theorem nameAt_inj {qs : List QI} {H : Heap} {j k : Nat} {q q' : QI} (hq : qs[j]? = some q) (hr : q.row.isSome = true) (hq' : qs[k]? = some q') (hr' : q'.row.isSome = true) (h : nameAt qs H j = nameAt qs H k) : j = k := by
  rcases Nat.lt_trichotomy j k with h1 | h1 | h1
  · have := nameAt_mono (H := H) hq hr h1; omega
  · exact h1
  · have := nameAt_mono (H := H) hq' hr' h1; omega
theorem nameAt_ge {qs : List QI} {H : Heap} (k : Nat) : H.length ≤ nameAt qs H k := by
  unfold nameAt
  obtain ⟨R, h, _⟩ := heapOf_append (qs.take k) H
  rw [h]; simp
theorem nameAt_row {qs : List QI} {H : Heap} {k : Nat} {q : QI} {r : Row} (hq : qs[k]? = some q) (hr : q.row = some r) : (heapOf qs H)[nameAt qs H k]? = some r := by
  have h1 := heapOf_succ (H := H) hq
  refine heapOf_pre (k + 1) ?_
  rw [h1, hr]
  simp [nameAt]

/-- the rows of the operations that have been carried out -/
def deadAt (qs : List QI) (H : Heap) (L : Nat → Bool) (b : Nat) : Bool := (List.range qs.length).any fun j => !L j && (qs.getD j default).row.isSome && nameAt qs H j == b
def heapL (qs : List QI) (H : Heap) (L : Nat → Bool) : Heap := (heapOf qs H).mapIdx fun b r => if deadAt qs H L b = true then ⟨[], 0, .dead⟩ else r
theorem heapL_len (qs : List QI) (H : Heap) (L : Nat → Bool) : (heapL qs H L).length = (heapOf qs H).length := by simp [heapL]
theorem heapL_get (qs : List QI) (H : Heap) (L : Nat → Bool) (b : Nat) : (heapL qs H L)[b]? = ((heapOf qs H)[b]?).map fun r => if deadAt qs H L b = true then ⟨[], 0, .dead⟩ else r := by simp [heapL]
theorem heapL_of {qs : List QI} {H : Heap} {L : Nat → Bool} {b : Nat} (h : deadAt qs H L b = false) : (heapL qs H L)[b]? = (heapOf qs H)[b]? := by
  rw [heapL_get, h]
  cases (heapOf qs H)[b]? <;> rfl
theorem heapL_alive {qs : List QI} {H : Heap} {L : Nat → Bool} {b : Nat} {r : Row} (h : (heapL qs H L)[b]? = some r) (hd : r.st ≠ .dead) : deadAt qs H L b = false ∧ (heapOf qs H)[b]? = some r := by
  cases hb : deadAt qs H L b with
  | false => rw [heapL_of hb] at h; exact ⟨rfl, h⟩
  | true =>
    rw [heapL_get, hb] at h
    cases hx : (heapOf qs H)[b]? with
    | none => simp [hx] at h
    | some r' => simp [hx] at h; subst h; exact absurd rfl hd
theorem deadAt_true {qs : List QI} {H : Heap} {L : Nat → Bool} {b : Nat} (h : deadAt qs H L b = true) : ∃ j q, qs[j]? = some q ∧ L j = false ∧ q.row.isSome = true ∧ nameAt qs H j = b := by
  simp only [deadAt, List.any_eq_true, List.mem_range, Bool.and_eq_true, Bool.not_eq_true', beq_iff_eq] at h
  obtain ⟨j, hj, ⟨h1, h2⟩, h3⟩ := h
  refine ⟨j, qs[j], List.getElem?_eq_getElem hj, h1, ?_, h3⟩
  simpa [List.getD_eq_getElem?_getD, List.getElem?_eq_getElem hj] using h2
theorem deadAt_of {qs : List QI} {H : Heap} {L : Nat → Bool} {j : Nat} {q : QI} (hq : qs[j]? = some q) (h1 : L j = false) (h2 : q.row.isSome = true) : deadAt qs H L (nameAt qs H j) = true := by
  simp only [deadAt, List.any_eq_true, List.mem_range, Bool.and_eq_true, Bool.not_eq_true', beq_iff_eq]
  exact ⟨j, (List.getElem?_eq_some_iff.1 hq).1, ⟨h1, by rw [List.getD_eq_getElem?_getD, hq]; exact h2⟩, rfl⟩
end Go.Vm
