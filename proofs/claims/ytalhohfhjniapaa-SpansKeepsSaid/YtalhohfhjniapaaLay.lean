/-
  Spans as they are laid, and the values that they stand for: plain lists, no program. No condition.
-/
import Derived.Test.YtalhohfhjniapaaData
namespace Go.Proofs.Ytalhohfhjniapaa.W
open Go Go.Vm Go.Proofs
set_option maxRecDepth 100000
theorem snoc_ind {α : Type} {p : List α → Prop} (h0 : p []) (h1 : ∀ l a, p l → p (l ++ [a])) (l : List α) : p l := by
 rw [← List.reverse_reverse l]
 induction l.reverse with
 | nil => exact h0
 | cons a r ih => rw [List.reverse_cons]; exact h1 _ _ ih
theorem snoc_cases {α : Type} (l : List α) : l = [] ∨ ∃ r a, l = r ++ [a] := snoc_ind (p := fun l => l = [] ∨ ∃ r a, l = r ++ [a]) (.inl rfl) (fun l a _ => .inr ⟨l, a, rfl⟩) l
/-- m more of x are laid behind -/
def layF (L : List Sp) (m x : Int) : List Sp := match L.getLast? with
 | some s => if s.v = x then L.dropLast ++ [⟨s.f, s.t + m, s.v⟩] else L ++ [⟨s.t, s.t + m, x⟩]
 | none => [⟨0, m, x⟩]
theorem layF_nil {m x : Int} : layF [] m x = [⟨0, m, x⟩] := rfl
theorem layF_snoc {L : List Sp} {s : Sp} {m x : Int} : layF (L ++ [s]) m x = if s.v = x then L ++ [⟨s.f, s.t + m, s.v⟩] else L ++ [s] ++ [⟨s.t, s.t + m, x⟩] := by
 simp only [layF, List.getLast?_append, List.getLast?_singleton, Option.some_or, List.dropLast_concat]
theorem layF_lay (L : List Sp) (m n x : Int) : layF (layF L m x) n x = layF L (m + n) x := by
 rcases snoc_cases L with rfl | ⟨L, s, rfl⟩
 ·rw [layF_nil, layF_nil]
  have := layF_snoc (L := []) (s := ⟨0, m, x⟩) (m := n) (x := x)
  simpa using this
 ·rw [layF_snoc, layF_snoc]
  by_cases h : s.v = x
  ·rw [if_pos h, if_pos h, layF_snoc, if_pos h]
   simp [Int.add_assoc]
  ·rw [if_neg h, if_neg h, layF_snoc, if_pos rfl]
   simp [Int.add_assoc]
/-- the spans of values -/
def ofF (v : List Int) : List Sp := v.foldl (fun L x => layF L 1 x) []
theorem ofF_snoc {v : List Int} {x : Int} : ofF (v ++ [x]) = layF (ofF v) 1 x := by simp [ofF]
theorem ofF_rep (v : List Int) (x : Int) : ∀ m : Nat, ofF (v ++ List.replicate (m + 1) x) = layF (ofF v) ((m + 1 : Nat) : Int) x
 | 0 => by simpa using ofF_snoc
 | m + 1 => by
  rw [List.replicate_succ', ← List.append_assoc, ofF_snoc, ofF_rep v x m, layF_lay]
  congr 1
theorem ofF_lay {v : List Int} {x m : Int} (h : 1 ≤ m) : layF (ofF v) m x = ofF (v ++ List.replicate m.toNat x) := by
 obtain ⟨k, hk⟩ : ∃ k, m.toNat = k + 1 := ⟨m.toNat - 1, by omega⟩
 rw [hk, ofF_rep]
 congr 1
 omega
/-- spans that stand one behind the other, from a up to b -/
def chain : Int → List Sp → Int → Prop
 | a, [], b => a = b
 | a, s :: r, b => s.f = a ∧ s.f < s.t ∧ chain s.t r b
theorem chain_app {a b : Int} {L M : List Sp} : chain a (L ++ M) b ↔ ∃ c, chain a L c ∧ chain c M b := by
 induction L generalizing a with
 | nil => simp [chain]
 | cons s r ih => simp [chain, ih, and_assoc]
theorem chain_le {a b : Int} {L : List Sp} (h : chain a L b) : a ≤ b := by
 induction L generalizing a with
 | nil => simp [chain] at h; omega
 | cons s r ih => have := ih h.2.2; have := h.1; have := h.2.1; omega
theorem chain_mem {a b : Int} {L : List Sp} (h : chain a L b) {s : Sp} (hs : s ∈ L) : a ≤ s.f ∧ s.f < s.t ∧ s.t ≤ b := by
 induction L generalizing a with
 | nil => cases hs
 | cons q r ih =>
  have h1 := chain_le h.2.2
  rcases List.mem_cons.1 hs with rfl | hs
  ·exact ⟨by have := h.1; omega, h.2.1, h1⟩
  ·have := ih h.2.2 hs
   have := h.1
   have := h.2.1
   omega
theorem chain_lay {L : List Sp} {n m x : Int} (h : chain 0 L n) (hm : 1 ≤ m) : chain 0 (layF L m x) (n + m) := by
 rcases snoc_cases L with rfl | ⟨L, s, rfl⟩
 ·simp [chain] at h; subst h; simp [layF_nil, chain]; omega
 ·obtain ⟨c, h1, h2⟩ := chain_app.1 h
  simp only [chain] at h2
  rw [layF_snoc]
  split
  ·exact chain_app.2 ⟨c, h1, h2.1, by simp only; omega, by simp only [chain]; omega⟩
  ·exact chain_app.2 ⟨s.t, chain_app.2 ⟨c, h1, h2.1, h2.2.1, rfl⟩, rfl, by simp only; omega, by simp only [chain]; omega⟩
theorem ofF_chain (v : List Int) : chain 0 (ofF v) v.length := by
 induction v using snoc_ind with
 | h0 => exact rfl
 | h1 l a ih => rw [ofF_snoc]; simpa using chain_lay (x := a) ih (Int.le_refl 1)
/-- what spans stand for -/
def expand (L : List Sp) : List Int := L.flatMap fun s => List.replicate (s.t - s.f).toNat s.v
theorem expand_app {L M : List Sp} : expand (L ++ M) = expand L ++ expand M := by simp [expand]
theorem expand_one {s : Sp} : expand [s] = List.replicate (s.t - s.f).toNat s.v := by simp [expand]
theorem expand_lay {L : List Sp} {n m x : Int} (h : chain 0 L n) (hm : 1 ≤ m) : expand (layF L m x) = expand L ++ List.replicate m.toNat x := by
 rcases snoc_cases L with rfl | ⟨L, s, rfl⟩
 ·simp [layF_nil, expand]
 ·obtain ⟨c, h1, h2⟩ := chain_app.1 h
  simp only [chain] at h2
  rw [layF_snoc]
  split
  ·rename_i hx
   rw [expand_app, expand_app, expand_one, expand_one, hx, List.append_assoc]
   congr 1
   rw [List.replicate_append_replicate]
   congr 1
   simp only
   omega
  ·rw [expand_app, expand_one]
   congr 2
   simp only
   omega
theorem expand_of (v : List Int) : expand (ofF v) = v := by
 induction v using snoc_ind with
 | h0 => rfl
 | h1 l a ih => rw [ofF_snoc, expand_lay (ofF_chain l) (Int.le_refl 1), ih]; rfl
/-- what stands at a place: the last span that has it -/
def valAt (L : List Sp) (i : Int) : Int := L.foldl (fun v s => if s.f ≤ i ∧ i < s.t then s.v else v) 0
def valsF (L : List Sp) (n : Int) : List Int := (List.range n.toNat).map fun i => valAt L (i : Nat)
theorem valAt_snoc {L : List Sp} {s : Sp} {i : Int} : valAt (L ++ [s]) i = if s.f ≤ i ∧ i < s.t then s.v else valAt L i := by simp [valAt]
theorem vals_chain (L : List Sp) : ∀ n : Int, chain 0 L n → valsF L n = expand L := by
 induction L using snoc_ind with
 | h0 => intro n h; simp [chain] at h; subst h; rfl
 | h1 L s ih =>
  intro n h
  obtain ⟨c, h1, h2⟩ := chain_app.1 h
  simp only [chain] at h2
  have hc := chain_le h1
  obtain ⟨k, hk⟩ : ∃ k : Nat, n.toNat = c.toNat + k ∧ (s.t - s.f).toNat = k := ⟨n.toNat - c.toNat, by omega, by omega⟩
  rw [expand_app, expand_one, ← ih c h1, valsF, valsF, hk.1, List.range_add, List.map_append, hk.2]
  congr 1
  ·apply List.map_congr_left
   intro i hi
   have hi' := List.mem_range.1 hi
   rw [valAt_snoc, if_neg (by omega)]
  ·rw [List.map_map]
   apply List.ext_getElem (by simp)
   intro j hj hj'
   simp only [List.length_map, List.length_range] at hj
   simp only [List.getElem_map, List.getElem_range, Function.comp_apply, List.getElem_replicate]
   rw [valAt_snoc, if_pos (by omega)]
/-- where spans end -/
def endF (L : List Sp) : Int := match L.getLast? with
 | some s => s.t
 | none => 0
theorem endF_chain {L : List Sp} {n : Int} (h : chain 0 L n) : endF L = n := by
 rcases snoc_cases L with rfl | ⟨L, s, rfl⟩
 ·simp [chain] at h; simpa [endF] using h
 ·obtain ⟨c, h1, h2⟩ := chain_app.1 h
  simp only [chain] at h2
  simp [endF, h2.2.2]
theorem end_of (v : List Int) : endF (ofF v) = v.length := endF_chain (ofF_chain v)
theorem vals_of (v : List Int) : valsF (ofF v) v.length = v := by rw [vals_chain _ _ (ofF_chain v), expand_of]
/-- what of values lies in a stretch; the first stands at a -/
def clip (lo hi : Int) : Int → List Int → List Int
 | _, [] => []
 | a, x :: r => if lo ≤ a ∧ a < hi then x :: clip lo hi (a + 1) r else clip lo hi (a + 1) r
theorem clip_app {lo hi a : Int} {u w : List Int} : clip lo hi a (u ++ w) = clip lo hi a u ++ clip lo hi (a + u.length) w := by
 induction u generalizing a with
 | nil => simp [clip]
 | cons x r ih =>
  simp only [List.cons_append, clip, ih, List.length_cons]
  rw [show a + 1 + (r.length : Int) = a + ((r.length + 1 : Nat) : Int) by omega]
  split <;> rfl
theorem clip_rep {lo hi x : Int} : ∀ (m : Nat) (a : Int), clip lo hi a (List.replicate m x) = List.replicate (min (a + m) hi - max a lo).toNat x
 | 0, a => by simp [clip]; omega
 | m + 1, a => by
  rw [List.replicate_succ, clip, clip_rep m (a + 1)]
  split
  ·rw [← List.replicate_succ]
   congr 1
   omega
  ·congr 1
   omega
/-- what 'take' lays of spans -/
def takeV (L : List Sp) (lo hi : Int) : List Int := L.flatMap fun s => List.replicate (min s.t hi - max s.f lo).toNat s.v
theorem take_chain {L : List Sp} {lo hi : Int} : ∀ {a b : Int}, chain a L b → takeV L lo hi = clip lo hi a (expand L) := by
 induction L with
 | nil => intros; rfl
 | cons s r ih =>
  intro a b h
  obtain ⟨h1, h2, h3⟩ := h
  have e1 : takeV (s :: r) lo hi = List.replicate (min s.t hi - max s.f lo).toNat s.v ++ takeV r lo hi := by simp [takeV]
  have e2 : expand (s :: r) = List.replicate (s.t - s.f).toNat s.v ++ expand r := by simp [expand]
  rw [e1, e2, clip_app, clip_rep, ih h3, List.length_replicate]
  congr 1
  ·congr 1; omega
  ·congr 1; omega
theorem take_of {v : List Int} {lo hi : Int} : takeV (ofF v) lo hi = clip lo hi 0 v := by rw [take_chain (ofF_chain v), expand_of]
theorem takeV_cons {s : Sp} {r : List Sp} {lo hi : Int} : takeV (s :: r) lo hi = List.replicate (min s.t hi - max s.f lo).toNat s.v ++ takeV r lo hi := by simp [takeV]
theorem clip_all {v : List Int} : ∀ {lo hi a : Int}, lo ≤ a → a + v.length ≤ hi → clip lo hi a v = v := by
 induction v with
 | nil => intros; rfl
 | cons x r ih =>
  intro lo hi a h1 h2
  simp only [List.length_cons] at h2
  rw [clip, if_pos (by omega), ih (by omega) (by omega)]
theorem clip_drop {v : List Int} : ∀ {lo hi a : Int}, a + v.length ≤ hi → clip lo hi a v = v.drop (lo - a).toNat := by
 induction v with
 | nil => intros; simp [clip]
 | cons x r ih =>
  intro lo hi a h
  simp only [List.length_cons] at h
  rw [clip]
  by_cases hc : lo ≤ a
  ·rw [if_pos ⟨hc, by omega⟩, ih (by omega), show (lo - a).toNat = 0 by omega, show (lo - (a + 1)).toNat = 0 by omega]
   rfl
  ·rw [if_neg (by omega), ih (by omega), show (lo - a).toNat = (lo - (a + 1)).toNat + 1 by omega]
   rfl
theorem clip_take {v : List Int} : ∀ {lo hi a : Int}, lo ≤ a → clip lo hi a v = v.take (hi - a).toNat := by
 induction v with
 | nil => intros; simp [clip]
 | cons x r ih =>
  intro lo hi a h
  rw [clip]
  by_cases hc : a < hi
  ·rw [if_pos ⟨h, hc⟩, ih (by omega), show (hi - a).toNat = (hi - (a + 1)).toNat + 1 by omega]
   rfl
  ·rw [if_neg (by omega), ih (by omega), show (hi - a).toNat = 0 by omega, show (hi - (a + 1)).toNat = 0 by omega]
   rfl
end Go.Proofs.Ytalhohfhjniapaa.W
