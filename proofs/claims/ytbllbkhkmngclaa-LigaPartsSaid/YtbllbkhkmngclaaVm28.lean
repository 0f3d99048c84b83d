/-
  The abstract machine, part 28: loops whose state is listed: which slots and rows are kept.
-/
import Derived.Test.YtbllbkhkmngclaaVm27
namespace Go.Vm
open Go Go.RowKit

/-- a loop: its slots and rows at a state, what is known of the state, a measure -/
class Lp where
  T : Type
  E : T → Env
  HH : T → Heap
  F : T → Prop
  m : T → Nat
/-- the end of a turn -/
def onBk (kp : Nat) [L : Lp] (x : L.T) (env : Env) (H : Heap) : Prop :=
  ∃ (y : L.T) (l : List Nat), L.F y ∧ L.m y < L.m x ∧ l.Nodup ∧ l.take kp = List.range kp ∧ keepE env l.length (pick l) (L.E y) ∧ keepH H l.length (pick l) l (L.HH y)
theorem onBk_to {kp : Nat} {T : Type} {E : T → Env} {HH : T → Heap} {F : T → Prop} {m : T → Nat} {x : T} {env : Env} {H : Heap} (y : T) (l : List Nat) (hl : l.Nodup) (hk : l.take kp = List.range kp) (hm : m y < m x) (hF : F y)
    (hE : keepE env l.length (pick l) (E y)) (hH : keepH H l.length (pick l) l (HH y)) : @onBk kp ⟨T, E, HH, F, m⟩ x env H := ⟨y, l, hF, hm, hl, hk, hE, hH⟩

theorem aWx_mono {P : Program} {kp : Nat} : ∀ (c : AC) {Q Q' : APost}, (∀ x e h, Q x e h → Q' x e h) → ∀ {env : Env} {H : Heap}, aWx P kp c Q env H → aWx P kp c Q' env H
  | .skip, _, _, hQ, _, _, h => hQ _ _ _ h
  | .reg is, _, _, hQ, _, _, h => aOps_mono (fun e h => hQ _ e h) h
  | .regq pre post, _, _, hQ, _, _, h => aQs_mono (fun _ _ h => aOps_mono (fun e h => hQ _ e h) h) h
  | .regs core st lates post, _, _, hQ, _, _, h => aQs_mono (fun _ _ h => aOps_mono (fun _ _ h => ⟨h.1, aOps_mono (fun e h => hQ _ e h) h.2⟩) h) h
  | .regm core sts lates, _, _, hQ, _, _, h => aQs_mono (fun _ _ h => stK_mono (fun e h => hQ _ e h) h) h
  | .seq a b, _, _, hQ, _, _, h => aWx_mono a (thenA_mono (fun _ _ h => aWx_mono b hQ h) hQ) h
  | .cond c a b, Q, Q', hQ, env, H, h => by
    simp only [aWx] at h ⊢
    split at h
    · rename_i heq
      exact ⟨fun e => aWx_mono a hQ (h.1 e), fun e => aWx_mono b hQ (h.2 e)⟩
    · exact h.elim
  | .block id c, _, _, hQ, _, _, h => aWx_mono c (blockA_mono hQ) h
  | .loop c, _, _, hQ, _, _, h => by
    obtain ⟨T, I, m, h1, h2⟩ := h
    exact ⟨T, I, m, h1, fun x e h hI => aWx_mono c (thenA_mono (fun _ _ h => h) hQ) (h2 x e h hI)⟩
  | .exit id, _, _, hQ, _, _, h => hQ _ _ _ h
  | .ret, _, _, hQ, _, _, h => hQ _ _ _ h

theorem loop_at {P : Program} {kp : Nat} {c : AC} {Q : APost} {env : Env} {H : Heap} {T : Type} (E : T → Env) (HH : T → Heap) (F : T → Prop) (m : T → Nat) (x0 : T) (l : List Nat) (hl : l.Nodup) (hk : l.take kp = List.range kp) (hF : F x0)
    (hE : keepE env l.length (pick l) (E x0)) (hH : keepH H l.length (pick l) l (HH x0))
    (step : ∀ x, F x → aWx P kp c (thenA (@onBk kp ⟨T, E, HH, F, m⟩ x) Q) (E x) (HH x)) : aWx P kp (.loop c) Q env H := by
  refine ⟨T, fun x e h => F x ∧ e = E x ∧ h = HH x, m, Up.to l (E x0) (HH x0) hl hk hE hH ⟨x0, hF, rfl, rfl⟩, ?_⟩
  rintro x _ _ ⟨hx, rfl, rfl⟩
  refine aWx_mono c ?_ (step x hx)
  intro ex e h hq
  cases ex with
  | normal =>
    obtain ⟨y, l, h1, h2, h3, h4, h5, h6⟩ := hq
    exact Up.to l _ _ h3 h4 h5 h6 ⟨y, ⟨h1, rfl, rfl⟩, h2⟩
  | exit i => exact hq
  | ret => exact hq

theorem loop_virt {P : Program} {kp : Nat} {c : AC} {Q : APost} {env : Env} {H : Heap} (d size : Nat) (hd : env.get d = .empty) (hs : 0 < size) (h : aWx P kp (.loop c) Q ((d, .rsl H.length 0 0) :: env) (H ++ [⟨[], size, .live⟩])) : aWx P kp (.loop c) Q env H := by
  obtain ⟨T, I, m, h1, h2⟩ := h
  exact ⟨T, I, m, .virt d size hd hs h1, h2⟩

theorem onB_ne {a b : Int} {A B : Prop} (h1 : a ≠ b → A) (h2 : a = b → B) : @onB (.pure (.bool (decide (a ≠ b)))) ⟨A⟩ ⟨B⟩ := onB_dec h1 (fun h => h2 (Classical.not_not.1 h))

theorem onIf_T (K : S → Heap → Prop) (s : S) (H : Heap) : @onIf True s H ⟨K⟩ = K s H := by simp [onIf]

theorem keepE_nil {env : Env} {n : Nat} {ρ : Nat → Nat} : keepE env n ρ [] = True := rfl
theorem keepE_cons {env : Env} {n : Nat} {ρ : Nat → Nat} {k : Nat} {s : S} {r : Env} : keepE env n ρ ((k, s) :: r) = ((s.inb n = true ∧ s.ren ρ = env.get k) ∧ keepE env n ρ r) := rfl
theorem keepH_nil {H : Heap} {n : Nat} {ρ : Nat → Nat} : keepH H n ρ [] [] = True := rfl
theorem keepH_cons {H : Heap} {n : Nat} {ρ : Nat → Nat} {k : Nat} {l : List Nat} {r : Row} {q : Heap} : keepH H n ρ (k :: l) (r :: q) = (keepR n ρ r H[k]? ∧ keepH H n ρ l q) := rfl
/-- a row that stays as it is -/
theorem keepR_some {n : Nat} {ρ : Nat → Nat} {es es' : List S} {m m' : Nat} {st st' : RowSt} : keepR n ρ ⟨es', m', st'⟩ (some ⟨es, m, st⟩) = (st' = .dead ∨ (st ≠ .dead ∧ (st' = st ∨ st' = .frozen) ∧ m' = m ∧ es = es'.map (S.ren ρ) ∧ ∀ e ∈ es', e.inb n = true)) := rfl
theorem ren_pure {ρ : Nat → Nat} {v : V} : (S.pure v).ren ρ = .pure v := rfl
theorem ren_empty {ρ : Nat → Nat} : S.empty.ren ρ = .empty := rfl
theorem ren_rsl {ρ : Nat → Nat} {b o n : Nat} : (S.rsl b o n).ren ρ = .rsl (ρ b) o n := rfl
theorem ren_ptr {ρ : Nat → Nat} {b i o : Nat} : (S.ptr b i o).ren ρ = .ptr (ρ b) i o := rfl
theorem ren_pptr {ρ : Nat → Nat} {v : V} {o : Nat} : (S.pptr v o).ren ρ = .pptr v o := rfl
theorem ren_agg {ρ : Nat → Nat} {cs : List S} : (S.agg cs).ren ρ = .agg (cs.map (S.ren ρ)) := by simp only [S.ren, S.rens_eq]
theorem ren_tup {ρ : Nat → Nat} {cs : List S} : (S.tup cs).ren ρ = .tup (cs.map (S.ren ρ)) := by simp only [S.ren, S.rens_eq]
theorem ren_func {ρ : Nat → Nat} {f : Fn} {a c : List S} : (S.func f a c).ren ρ = .func f (a.map (S.ren ρ)) (c.map (S.ren ρ)) := by simp only [S.ren, S.rens_eq]
theorem ren_dead {ρ : Nat → Nat} : S.dead.ren ρ = .dead := rfl
theorem inb_pure {n : Nat} {v : V} : (S.pure v).inb n = true := rfl
theorem inb_empty {n : Nat} : S.empty.inb n = true := rfl
theorem inb_rsl {n b o k : Nat} : (S.rsl b o k).inb n = decide (b < n) := rfl
theorem inb_ptr {n b o k : Nat} : (S.ptr b o k).inb n = decide (b < n) := rfl
theorem inb_pptr {n o : Nat} {v : V} : (S.pptr v o).inb n = true := rfl
theorem inb_agg {n : Nat} {cs : List S} : (S.agg cs).inb n = cs.all (S.inb n) := by
  simp only [S.inb]
  induction cs with
  | nil => rfl
  | cons s r ih => simp only [S.inbs, List.all_cons, ih]
theorem inb_tup {n : Nat} {cs : List S} : (S.tup cs).inb n = cs.all (S.inb n) := by
  simp only [S.inb]
  induction cs with
  | nil => rfl
  | cons s r ih => simp only [S.inbs, List.all_cons, ih]
theorem inb_func {n : Nat} {f : Fn} {a c : List S} : (S.func f a c).inb n = (a.all (S.inb n) && c.all (S.inb n)) := by
  have : ∀ l : List S, S.inbs n l = l.all (S.inb n) := by
    intro l
    induction l with
    | nil => rfl
    | cons s r ih => simp only [S.inbs, List.all_cons, ih]
  simp only [S.inb, this]
theorem inb_dead {n : Nat} : S.dead.inb n = true := rfl
theorem ren_pures {ρ : Nat → Nat} {α : Type} {f : α → V} {l : List α} : (l.map fun a => S.pure (f a)).map (S.ren ρ) = l.map fun a => S.pure (f a) := by simp [ren_pure, Function.comp_def]
theorem inb_pures {n : Nat} {α : Type} {f : α → V} {l : List α} : (∀ e ∈ l.map fun a => S.pure (f a), e.inb n = true) = True := by simp [inb_pure]
theorem ren_pures' {ρ : Nat → Nat} {l : List V} : (l.map S.pure).map (S.ren ρ) = l.map S.pure := by simp [ren_pure, Function.comp_def]
theorem inb_pures' {n : Nat} {l : List V} : (∀ e ∈ l.map S.pure, e.inb n = true) = True := by simp [inb_pure]
theorem take_pures {l : List V} : (l.map S.pure).take l.length = l.map S.pure := List.take_of_length_le (by simp)
theorem push_pures {l : List V} {v : V} : l.map S.pure ++ [.pure v] = (l ++ [v]).map S.pure := by simp
theorem cells_pures {l : List V} {n : Nat} (h : ∀ v ∈ l, v.cells.length = n) : ∀ e ∈ l.map S.pure, e.cells.length = n := by
  intro e he
  obtain ⟨v, hv, rfl⟩ := List.mem_map.1 he
  simpa [S.cells] using h v hv
theorem pick_zero {k : Nat} {l : List Nat} : pick (k :: l) 0 = k := rfl
theorem pick_succ {k i : Nat} {l : List Nat} : pick (k :: l) (i + 1) = pick l i := rfl

/-! append -/
def appOk (ys : List S) (st : RowSt) (m size room off len bytes : Nat) : Prop :=
  (∀ e ∈ ys, e.cells.length = size) ∧ st = .live ∧ m = size ∧ off + len ≤ room ∧ (len + ys.length) * bytes ≤ 140737488355328 ∧ len + ys.length ≤ maxLen
def appOk0 (ys : List S) (size bytes : Nat) : Prop := (∀ e ∈ ys, e.cells.length = size) ∧ ys.length * bytes ≤ 140737488355328 ∧ ys.length ≤ maxLen
def appR (H : Heap) (size bytes b off len : Nat) (ys : List S) : Option Row → Option (Prop × S × Heap)
  | some r => some (appOk ys r.st r.size size r.es.length off len bytes, .rsl H.length 0 (len + ys.length), H.set b ⟨[], r.size, .dead⟩ ++ [⟨(r.es.drop off).take len ++ ys, size, .live⟩])
  | none => none
theorem appF_row {H : Heap} {size bytes b off len : Nat} {ys : List S} : appF H size bytes (.rsl b off len) (some ys) = appR H size bytes b off len ys H[b]? := by
  simp only [appF, appR, appOk]
  cases H[b]? <;> rfl
theorem appR_some {H : Heap} {size bytes b off len m : Nat} {ys es : List S} {st : RowSt} : appR H size bytes b off len ys (some ⟨es, m, st⟩) = some (appOk ys st m size es.length off len bytes, .rsl H.length 0 (len + ys.length), H.set b ⟨[], m, .dead⟩ ++ [⟨(es.drop off).take len ++ ys, size, .live⟩]) := rfl
theorem appF_none {H : Heap} {size bytes : Nat} {ys : List S} : appF H size bytes .empty (some ys) = some (appOk0 ys size bytes, .rsl H.length 0 ys.length, H ++ [⟨ys, size, .live⟩]) := rfl
theorem appOk_one {s : S} {m size room off len bytes : Nat} (h1 : s.cells.length = size) (h2 : m = size) (h3 : off + len ≤ room) (h4 : (len + 1) * bytes ≤ 140737488355328) (h5 : len + 1 ≤ maxLen) : appOk [s] .live m size room off len bytes :=
  ⟨fun e he => by simp at he; subst he; exact h1, rfl, h2, h3, h4, h5⟩
theorem appOk0_one {s : S} {size bytes : Nat} (h1 : s.cells.length = size) (h4 : bytes ≤ 140737488355328) : appOk0 [s] size bytes :=
  ⟨fun e he => by simp at he; subst he; exact h1, by simpa using h4, by simp [maxLen]⟩
def srcR (size off len : Nat) : Option Row → Option (List S)
  | some r => if r.size = size ∧ off + len ≤ r.es.length then some ((r.es.drop off).take len) else none
  | none => none
theorem srcOf_rsl {H : Heap} {size b off len : Nat} : srcOf H size (.rsl b off len) = srcR size off len (rowAt H b) := by
  simp only [srcOf, srcR]
  cases rowAt H b <;> rfl
theorem srcR_some {size off len m : Nat} {es : List S} {st : RowSt} : srcR size off len (some ⟨es, m, st⟩) = if m = size ∧ off + len ≤ es.length then some ((es.drop off).take len) else none := rfl
theorem take_map_pures {α : Type} {f : α → V} {X : List α} : ((X.map f).map S.pure).take X.length = (X.map f).map S.pure := List.take_of_length_le (by simp)
/-- a result that lies in a row of one's own -/
theorem gives_row {α : Type} {f : α → V} {X : List α} {H : Heap} {b m : Nat} {st : RowSt} (h : H[b]? = some ⟨(X.map f).map S.pure, m, st⟩) (hst : st ≠ .dead) : Gives [.sl (X.map f)] (.rsl b 0 X.length) H := by
  refine gives_one ?_
  simp only [toV, toVo, toV0, h, List.drop_zero, take_map_pures, allPure_map, List.length_map, Nat.zero_add, Nat.le_refl, and_true]
  rw [if_pos]
  cases st <;> simp at hst ⊢
theorem gives_empty {H : Heap} : Gives [.sl []] .empty H := gives_one rfl

/-! what a call asks of the rows, and leaves -/
theorem sameH_nil {H : Heap} {n : Nat} {ρ : Nat → Nat} : sameH H n ρ [] [] = True := rfl
theorem sameH_cons {H : Heap} {n : Nat} {ρ : Nat → Nat} {k : Nat} {l : List Nat} {r : Row} {q : Heap} : sameH H n ρ (k :: l) (r :: q) = (sameR n ρ r H[k]? ∧ sameH H n ρ l q) := rfl
theorem sameR_some {n : Nat} {ρ : Nat → Nat} {es es' : List S} {m m' : Nat} {st st' : RowSt} : sameR n ρ ⟨es', m', st'⟩ (some ⟨es, m, st⟩) = (st = st' ∧ (st' = .dead ∨ m' = m ∧ es = es'.map (S.ren ρ) ∧ ∀ e ∈ es', e.inb n = true)) := rfl
end Go.Vm
