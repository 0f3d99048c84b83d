/-
  The laws of lookups that go from behind, at any input of their types.
-/
import Derived.Test.YtcjmkpkhjhjepaaRev12
import Derived.Test.YtcjmkpkhjhjepaaRev13
namespace Go.Proofs.Ytcjmkpkhjhjepaa.W
open Go Go.Vm Go.Proofs
set_option maxRecDepth 100000
theorem ty_two : tyC Try.prog 20 44 = some (true, [.int .i64, .int .i64]) := by kernel_rfl
theorem ty_u8 : tyC Try.prog 20 5 = some (false, [.int .u8]) := by kernel_rfl
theorem two_of {v : V} (h : OkT Try.prog 44 v) : ∃ a b, v = .agg [I a, I b] := by
  obtain ⟨cs, rfl, hc⟩ := agg_of (h _ _ _ ty_two)
  match cs, hc with
  | [a, b], ⟨h1, h2, _⟩ =>
    obtain ⟨x, rfl, _⟩ := okN_of h1
    obtain ⟨y, rfl, _⟩ := okN_of h2
    exact ⟨x, y, rfl⟩
theorem u8_of {v : V} (h : OkT Try.prog 5 v) : ∃ n, v = .int .u8 n ∧ 0 ≤ n ∧ n ≤ 255 := by
  obtain ⟨n, rfl, hn⟩ := int_of (cell_of (h _ _ _ ty_u8))
  refine ⟨n, rfl, ?_⟩
  simp [Lit.wf, IntKind.min, IntKind.max, IntKind.bits, IntKind.signed] at hn
  exact ⟨by omega, by omega⟩
theorem ra_all (vs : List V) (h : OkTs Try.prog Try.f7.params.toList vs) : FnQ Try.prog 7 vs [.bool true] := by
  rw [Try.params7] at h
  match vs, h with
  | [x, y, z], h =>
    obtain ⟨h1, h2, h3, _⟩ := h
    obtain ⟨f, rfl⟩ := font_of' h1
    obtain ⟨l, rfl, _⟩ := gls_of (cell_of (h2 _ _ _ ty_glyphs))
    obtain ⟨a, b, rfl⟩ := two_of h3
    exact ra_law f l a b
theorem rd_all (vs : List V) (h : OkTs Try.prog Try.f6.params.toList vs) : FnQ Try.prog 6 vs [.bool true] := by
  rw [Try.params6] at h
  match vs, h with
  | [x, y, z], h =>
    obtain ⟨h1, h2, h3, _⟩ := h
    obtain ⟨f, rfl⟩ := font_of' h1
    obtain ⟨l, rfl, _⟩ := gls_of (cell_of (h2 _ _ _ ty_glyphs))
    obtain ⟨a, b, rfl⟩ := two_of h3
    exact rd_law f l a b
theorem rk_all (vs : List V) (h : OkTs Try.prog Try.f8.params.toList vs) : FnQ Try.prog 8 vs [.bool true] := by
  rw [Try.params8] at h
  match vs, h with
  | [x, y, z], h =>
    obtain ⟨h1, h2, h3, _⟩ := h
    obtain ⟨f, rfl⟩ := font_of' h1
    obtain ⟨l, rfl, _⟩ := gls_of (cell_of (h2 _ _ _ ty_glyphs))
    obtain ⟨n, rfl, n0, n1⟩ := u8_of h3
    exact rk_law f l n n0 n1
end Go.Proofs.Ytcjmkpkhjhjepaa.W
