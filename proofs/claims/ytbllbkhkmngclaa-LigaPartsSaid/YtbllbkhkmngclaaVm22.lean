/-
  The abstract machine, part 22: a plainer form of what a code does ('aWx'), to be reckoned by simp; loops.
-/
import Derived.Test.YtbllbkhkmngclaaVm21
namespace Go.Vm
open Go Go.RowKit

/-- as 'aWp', with nothing said of weaker states but at loops -/
def aWx (P : Program) (kp : Nat) : AC → APost → Env → Heap → Prop
  | .skip, Q => Q .normal
  | .reg is, Q => aOps P is (Q .normal)
  | .regq pre post, Q => aQs P pre (aOps P post (Q .normal))
  | .regs core st lates post, Q => aQs P core (aOps P [st] (lateK P lates post (Q .normal)))
  | .regm core sts lates, Q => aQs P core (stK P lates sts (Q .normal))
  | .seq a b, Q => aWx P kp a (thenA (aWx P kp b Q) Q)
  | .cond c a b, Q => fun env H => match c.ev env with
    | .pure (.bool t) => (t = true → aWx P kp a Q env H) ∧ (t = false → aWx P kp b Q env H)
    | _ => False
  | .block id c, Q => aWx P kp c (blockA id Q)
  | .loop c, Q => LoopW kp (aWx P kp c) Q
  | .exit id, Q => Q (.exit id)
  | .ret, Q => Q .ret

theorem aVal_mono {P : Program} {env : Env} {H : Heap} {op : AOp} {K K' : S → Heap → Prop} (hK : ∀ s h, K s h → K' s h) (h : aVal P env H op K) : aVal P env H op K' := by
  cases op
  case call => exact h.mono hK
  case callv =>
    simp only [aVal] at h ⊢
    split at h
    · rename_i heq; try rw [heq]
      exact h.mono hK
    · rename_i heq; try rw [heq]
      exact h.mono hK
    · exact h.elim
  case box => exact ⟨h.1, hK _ _ h.2⟩
  case bslice => exact ⟨h.1, hK _ _ h.2⟩
  case mksl =>
    simp only [aVal] at h ⊢
    split at h
    · rename_i heq heq'; try rw [heq, heq']
      exact ⟨h.1, hK _ _ h.2⟩
    · exact h.elim
  case store =>
    simp only [aVal] at h ⊢
    split at h
    · rename_i heq
      split at h
      · rename_i hb
        split at h
        · rename_i he
          obtain ⟨h1, h2, h3, h4, h5⟩ := h
          try simp only [heq, hb, he]
          exact ⟨h1, h2, h3, h4, hK _ _ h5⟩
        · exact h.2.elim
      · exact h.elim
    · exact h.elim
  case app =>
    simp only [aVal] at h ⊢
    split at h
    · exact h.elim
    · rename_i ys hys
      try rw [hys]
      obtain ⟨h0, h⟩ := h
      refine ⟨h0, ?_⟩
      split at h
      · rename_i heq
        try rw [heq]
        exact ⟨h.1, h.2.1, hK _ _ h.2.2⟩
      · rename_i heq
        try rw [heq]
        split at h
        · rename_i hb
          try simp only [hb]
          obtain ⟨h1, h2, h3, h4, h5, h6⟩ := h
          exact ⟨h1, h2, h3, h4, h5, hK _ _ h6⟩
        · exact h.elim
      · exact h.elim
  case slnil =>
    simp only [aVal] at h ⊢
    split at h
    · rename_i heq; try rw [heq]
      exact fun b hb => hK _ _ (h b hb)
    · exact h.elim
  case pick =>
    simp only [aVal] at h ⊢
    split at h
    · rename_i heq; try rw [heq]
      exact ⟨fun e => hK _ _ (h.1 e), fun e => hK _ _ (h.2 e)⟩
    · exact h.elim
  case len =>
    simp only [aVal] at h ⊢
    split at h
    · rename_i heq; try rw [heq]
      exact hK _ _ h
    · rename_i heq; try rw [heq]
      exact fun e => hK _ _ (h e)
    · rename_i heq; try rw [heq]
      exact fun e => hK _ _ (h e)
    · exact h.elim
  case lenS =>
    simp only [aVal] at h ⊢
    split at h
    · rename_i heq; try rw [heq]
      exact fun e => hK _ _ (h e)
    · exact h.elim
  all_goals
    simp only [aVal] at h ⊢
    split at h
    · rename_i heq
      first | exact hK _ _ h | (simp only [heq]; exact hK _ _ h) | (rw [heq]; exact hK _ _ h)
    · exact h.elim
theorem aIns_mono {P : Program} {i : AI} {K K' : Env → Heap → Prop} (hK : ∀ e h, K e h → K' e h) {env : Env} {H : Heap} (h : aIns P i K env H) : aIns P i K' env H := by
  unfold aIns at h ⊢
  split
  · rename_i hg
    simp only [hg] at h
    exact aVal_mono (fun s h' => hK _ _) h
  · rename_i t b hg
    simp only [hg] at h
    split at h
    · rename_i c he
      exact ⟨fun e => aVal_mono (fun s h' => hK _ _) (h.1 e), fun e => hK _ _ (h.2 e)⟩
    · exact hK _ _ h
    · exact h.elim
theorem aOps_mono {P : Program} : ∀ {is : List AI} {K K' : Env → Heap → Prop}, (∀ e h, K e h → K' e h) → ∀ {env : Env} {H : Heap}, aOps P is K env H → aOps P is K' env H
  | [], _, _, hK, _, _, h => hK _ _ h
  | i :: is, _, _, hK, _, _, h => aIns_mono (i := i) (fun _ _ h => aOps_mono (is := is) hK h) h
theorem aQop_mono {P : Program} {op : AOp} {K K' : S → Heap → Prop} (hK : ∀ s h, K s h → K' s h) {env : Env} {H : Heap} (h : aQop P op K env H (CallQ P)) : aQop P op K' env H (CallQ P) := by
  have cq : ∀ {f : Nat} {args : List S}, CallQ P f args H (fun r => K r H) → CallQ P f args H fun r => K' r H := by
    rintro f args ⟨rs, h1, h4⟩
    exact ⟨rs, h1, hK _ _ h4⟩
  cases op
  case call => exact cq h
  case callv =>
    simp only [aQop] at h ⊢
    split at h
    · rename_i heq; try rw [heq]
      exact cq h
    · rename_i heq; try rw [heq]
      exact cq h
    · exact h.elim
  case box x =>
    have h' : aVal P env H (.box x) K := h
    exact (aVal_mono hK h' : aVal P env H (.box x) K')
  case bslice n ps =>
    have h' : aVal P env H (.bslice n ps) K := h
    exact (aVal_mono hK h' : aVal P env H (.bslice n ps) K')
  case mksl n b z x y =>
    have h' : aVal P env H (.mksl n b z x y) K := h
    exact (aVal_mono hK h' : aVal P env H (.mksl n b z x y) K')
  case pick =>
    simp only [aQop] at h ⊢
    split at h
    · rename_i heq; try rw [heq]
      exact ⟨fun e => hK _ _ (h.1 e), fun e => hK _ _ (h.2 e)⟩
    · exact h.elim
  all_goals
    simp only [aQop] at h ⊢
    split at h
    · rename_i heq
      first | exact hK _ _ h | (simp only [heq]; exact hK _ _ h) | (rw [heq]; exact hK _ _ h)
    · exact h.elim
theorem aQs_mono {P : Program} : ∀ {is : List AI} {K K' : Env → Heap → Prop}, (∀ e h, K e h → K' e h) → ∀ {env : Env} {H : Heap}, aQs P is K env H → aQs P is K' env H
  | [], _, _, hK, _, _, h => hK _ _ h
  | i :: is, K, K', hK, env, H, h => by
    unfold aQs at h ⊢
    split
    · rename_i hg
      simp only [hg] at h
      exact aQop_mono (fun s h' => aQs_mono (is := is) hK) h
    · rename_i t b hg
      simp only [hg] at h
      split at h
      · exact ⟨fun e => aQop_mono (fun s h' => aQs_mono (is := is) hK) (h.1 e), fun e => aQs_mono (is := is) hK (h.2 e)⟩
      · exact aQs_mono (is := is) hK h
      · exact h.elim

theorem thenA_mono {n n' : Env → Heap → Prop} {Q Q' : APost} (hn : ∀ e h, n e h → n' e h) (hQ : ∀ x e h, Q x e h → Q' x e h) : ∀ x e h, thenA n Q x e h → thenA n' Q' x e h := by
  intro x e h hx
  cases x with
  | normal => exact hn _ _ hx
  | exit i => exact hQ _ _ _ hx
  | ret => exact hQ _ _ _ hx
theorem blockA_mono {id : Nat} {Q Q' : APost} (hQ : ∀ x e h, Q x e h → Q' x e h) : ∀ x e h, blockA id Q x e h → blockA id Q' x e h := by
  intro x e h hx
  cases x with
  | normal => exact hQ _ _ _ hx
  | exit i =>
    simp only [blockA] at hx ⊢
    split
    · rw [if_pos (by assumption)] at hx; exact hQ _ _ _ hx
    · rw [if_neg (by assumption)] at hx; exact hQ _ _ _ hx
  | ret => exact hQ _ _ _ hx

theorem stK_mono {P : Program} {l : List AI} : ∀ {sts : List AI} {K K' : Env → Heap → Prop}, (∀ e h, K e h → K' e h) → ∀ {env : Env} {H : Heap}, stK P l sts K env H → stK P l sts K' env H
  | [], _, _, hK, _, _, h => hK _ _ h
  | s :: r, _, _, hK, _, _, h => aOps_mono (is := [s]) (fun _ _ h => ⟨h.1, stK_mono (sts := r) hK h.2⟩) h

theorem aWp_mono {P : Program} {kp : Nat} : ∀ (c : AC) {Q Q' : APost}, (∀ x e h, Q x e h → Q' x e h) → ∀ {env : Env} {H : Heap}, aWp P kp (RQs P) c Q env H → aWp P kp (RQs P) c Q' env H
  | .skip, _, _, hQ, _, _, h => hQ _ _ _ h
  | .reg is, _, _, hQ, _, _, h => aOps_mono (fun e h => hQ _ e h) h
  | .regq pre post, _, _, hQ, _, _, h => aQs_mono (fun _ _ h => aOps_mono (fun e h => hQ _ e h) h) h
  | .regs core st lates post, _, _, hQ, _, _, h => aQs_mono (fun _ _ h => aOps_mono (fun _ _ h => ⟨h.1, aOps_mono (fun e h => hQ _ e h) h.2⟩) h) h
  | .regm core sts lates, _, _, hQ, _, _, h => aQs_mono (fun _ _ h => stK_mono (fun e h => hQ _ e h) h) h
  | .seq a b, _, _, hQ, _, _, h => aWp_mono a (thenA_mono (fun _ _ h => h.mono fun _ _ h => aWp_mono b hQ h) hQ) h
  | .cond c a b, Q, Q', hQ, env, H, h => by
    simp only [aWp] at h ⊢
    split at h
    · rename_i heq
      exact ⟨fun e => aWp_mono a hQ (h.1 e), fun e => aWp_mono b hQ (h.2 e)⟩
    · exact h.elim
  | .block id c, _, _, hQ, _, _, h => aWp_mono c (blockA_mono hQ) h
  | .loop c, _, _, hQ, _, _, h => by
    obtain ⟨T, I, m, h1, h2⟩ := h
    exact ⟨T, I, m, h1, fun x e h hI => aWp_mono c (thenA_mono (fun _ _ h => h) hQ) (h2 x e h hI)⟩
  | .exit id, _, _, hQ, _, _, h => hQ _ _ _ h
  | .ret, _, _, hQ, _, _, h => hQ _ _ _ h

theorem aWx_sound {P : Program} {kp : Nat} : ∀ (c : AC) {Q : APost} {env : Env} {H : Heap}, aWx P kp c Q env H → aWp P kp (RQs P) c Q env H
  | .skip, _, _, _, h => h
  | .reg is, _, _, _, h => h
  | .regq pre post, _, _, _, h => h
  | .regs core st lates post, _, _, _, h => h
  | .regm core sts lates, _, _, _, h => h
  | .seq a b, Q, _, _, h => aWp_mono a (thenA_mono (fun _ _ h => .here (aWx_sound b h)) (fun _ _ _ h => h)) (aWx_sound a h)
  | .cond c a b, Q, env, H, h => by
    simp only [aWx, aWp] at h ⊢
    split at h
    · rename_i heq
      try simp only [heq]
      exact ⟨fun e => aWx_sound a (h.1 e), fun e => aWx_sound b (h.2 e)⟩
    · exact h.elim
  | .block id c, _, _, _, h => aWx_sound c h
  | .loop c, _, _, _, h => by
    obtain ⟨T, I, m, h1, h2⟩ := h
    exact ⟨T, I, m, h1, fun x e h hI => aWx_sound c (h2 x e h hI)⟩
  | .exit id, _, _, _, h => h
  | .ret, _, _, _, h => h

/-- what a body of a loop leads to: 'again' at the next turn -/
def PostX (rs : List RS) (K : S → Heap → Prop) : APost
  | .normal => fun env H => match resVals env H rs with
    | some ss => K (retS ss) H
    | none => False
  | .ret => fun env H => match resVals env H rs with
    | some ss => K (retS ss) H
    | none => False
  | .exit _ => fun _ _ => False
theorem PostX.up {kp : Nat} {rs : List RS} {K : S → Heap → Prop} : ∀ x e h, PostX rs K x e h → PostR kp rs K x e h
  | .normal, _, _, h => .here h
  | .ret, _, _, h => .here h
  | .exit _, _, _, h => h

theorem callA_of_x {P : Program} (hm : P.follows .mixedOrders = true) {f : Nat} {fn : Func} {ac : AC} {rs : List RS}
    (hf : P.funcs[f]? = some fn) (hname : (fn.name == "runtime.NumGoroutine") = false) (hc : (fn.body.bind fun c => cCode P fn.ntmps RCs c) = some ac) (hres : resC P fn.results.toList = some rs) {args : List S} (hn : args.length ≤ fn.ntmps) {H : Heap} {K : S → Heap → Prop}
    (h : aWx P H.length ac (PostX rs K) (argEnv 0 args) H) : CallA P f args H K :=
  callA_of_code hm hf hname hc hres hn (aWp_mono ac PostX.up (aWx_sound ac h))
theorem fnQ_of_x {P : Program} (hm : P.follows .mixedOrders = true) {f : Nat} {fn : Func} {ac : AC} {rs : List RS}
    (hf : P.funcs[f]? = some fn) (hname : (fn.name == "runtime.NumGoroutine") = false) (hc : (fn.body.bind fun c => cCode P fn.ntmps RCs c) = some ac) (hres : resC P fn.results.toList = some rs) {vs ds : List V} (hn : vs.length ≤ fn.ntmps)
    (h : aWx P 0 ac (PostX rs (Gives ds)) (argEnv 0 (vs.map .pure)) []) : FnQ P f vs ds :=
  fnQ_of_call (callA_of_x hm hf hname hc hres (by simpa using hn) h)

theorem fnF_of_x {P : Program} (hm : P.follows .mixedOrders = true) {f : Nat} {fn : Func} {ac : AC} {rs : List RS}
    (hf : P.funcs[f]? = some fn) (hname : (fn.name == "runtime.NumGoroutine") = false) (hc : (fn.body.bind fun c => cCode P fn.ntmps RCs c) = some ac) (hres : resC P fn.results.toList = some rs) {vs ds : List V} (hn : vs.length ≤ fn.ntmps)
    (h : aWx P 0 ac (PostX rs (GivesF ds)) (argEnv 0 (vs.map .pure)) []) : FnF P f vs ds :=
  fnF_of_call (callA_of_x hm hf hname hc hres (by simpa using hn) h)
theorem gives_one {d : V} {s : S} {H : Heap} (h : toV true H s = some d) : Gives [d] s H := ⟨[s], rfl, by simp [toVs, h]⟩
theorem gives_pure {d : V} {H : Heap} : Gives [d] (.pure d) H := gives_one rfl
theorem gives_tup {ds : List V} {ss : List S} {H : Heap} (h : toVs true H ss = some ds) (hl : ss.length ≠ 1) : Gives ds (.tup ss) H := by
  refine ⟨ss, ?_, h⟩
  rcases ss with _ | ⟨s, _ | ⟨s2, q⟩⟩
  · rfl
  · simp at hl
  · rfl
end Go.Vm
