/- Each operation does what the reading says: all of them. No program in sight. -/
import Derived.Test.YtckghclpdfbigaaEngP
set_option linter.unusedSimpArgs false
set_option linter.unusedVariables false
namespace Go.Proofs.Ytckghclpdfbigaa
section
variable {ρ : Type} {P : Program} {Γ : Cx} {id : Nat} {rd : Nat → Option (List EV)} {g : Option Bool} {A : Operand → EV} {o : Oper} {q : EV → Option (List EV) → List Wr → List Nat → Option ρ} {r : ρ}
theorem refill_length : ∀ (ps : List PT) (cs new out rest : List EV), refill ps cs new = some (out, rest) → out.length = cs.length := by
  intro ps
  induction ps with
  | nil =>
    intro cs new out rest h
    cases cs with
    | nil => simp only [refill] at h; cases h; rfl
    | cons c cs => simp only [refill] at h; cases h
  | cons p ps ih =>
    intro cs new out rest h
    cases cs with
    | nil => cases p <;> simp only [refill] at h <;> cases h
    | cons c cs =>
      cases p with
      | own t => simp only [refill] at h; cases h
      | dat t =>
        cases new with
        | nil => simp only [refill] at h; cases h
        | cons x new =>
          simp only [refill] at h
          split at h
          · rename_i h1; cases h; simp [ih _ _ _ _ h1]
          · cases h
      | ref i off =>
        simp only [refill] at h
        split at h
        · rename_i h1; cases h; simp [ih _ _ _ _ h1]
        · cases h
      | clo f a b =>
        simp only [refill] at h
        split at h
        · rename_i h1; cases h; simp [ih _ _ _ _ h1]
        · cases h
theorem conFind_spec {f : Nat} {ok : Con → Bool} : ∀ (l : List Con) (c : Con), conFind f ok l = some c → c ∈ l ∧ c.f = f
  | [], c, h => by cases h
  | d :: r, c, h => by
    simp only [conFind] at h
    split at h
    · rename_i hk
      cases h
      simp only [Bool.and_eq_true] at hk
      exact ⟨by simp, Nat.eq_of_beq_eq_true hk.1⟩
    · obtain ⟨h1, h2⟩ := conFind_spec r c h
      exact ⟨by simp [h1], h2⟩
theorem goes_call {c : Con} {B : Base} {ow : Nat → Owner} {bx : Bx} {nb : Nat} {bg : Nat → Option (List EV)} {w : World} {a : Act} {args : Array Value} {v : EV} {ws : List Wr} (hc : ConOK P c)
    (hrun : (execOp a.eval o).run P w = .ok (.enter c.f args) w)
    (h : Calls P c.f args w fun e w' => ∃ u ow', e = .returned u ∧ Keeps ow bx w ow' bx w' ∧ RepEV ow' bx w' v u ∧ Inv B ow' bx nb (upd bg id none ws) w') :
    Goes P B ow bx nb bg w a o id v none ws := by
  intro K Q hK
  unfold Oper.wp
  rw [hrun]
  exact h.mono fun e w' ⟨u, ow', he, h1, h2, h3⟩ => by subst he; exact hK u ow' bx w' h1 h2 h3 rfl
theorem enter_run {c : Con} {a : Act} {w : World} {k : Call} {f : Operand} {fs cs : Array Value} (hc : ConOK P c) (ho : o.op = .call k) (hk : k.callee = .value f) (hf : a.eval f = .func (.func c.f) fs cs) :
    (execOp a.eval o).run P w = .ok (.enter c.f (fs ++ k.args.map a.eval ++ cs)) w := by
  obtain ⟨fn, h1, h2, h3⟩ := hc.fn
  unfold execOp
  rw [ho]
  have hb : ¬ fn.body = none := by intro e; rw [e] at h2; cases h2
  have h3' : ¬ fn.name = "runtime.NumGoroutine" := by simpa using h3
  simp [resolve, hk, hf, Deferred.ofValue, invoke, callFunc, h1, h3', hb]
theorem sound_call {k : Call} {f : Operand} (hΓ : CxOK P Γ) (ho : o.op = .call k) (hk : k.callee = .value f) (h : opE Γ id rd g A (.call k) q = some r) : Sound P id rd g A o q r := by
  simp only [opE, hk] at h
  split at h
  · rename_i fid fst caps he
    unfold callE at h
    split at h
    · rename_i c hcf
      obtain ⟨hmem, hcfid⟩ := conFind_spec _ _ hcf
      have hc := hΓ.cons c hmem
      subst hcfid
      have hargs : ∀ {ow bx w} {a : Act}, Args ow bx w A a.eval o.op → ∃ fs cs, a.eval f = .func (.func c.f) fs cs ∧ RepL ow bx w (fst ++ k.args.toList.map A ++ caps) (fs ++ k.args.map a.eval ++ cs) := by
        intro ow bx w a hA
        have hall := call_args ho hA
        have hfv := hall f (by simp [Call.operands, hk])
        rw [he] at hfv
        generalize hpe : a.eval f = u at hfv
        cases hfv with
        | clo h1 h2 h3 h4 =>
          rename_i fs cs
          refine ⟨fs, cs, rfl, by simp [h1, h2], fun i e v hi hv => ?_⟩
          rw [List.getElem?_append] at hi
          rw [Array.getElem?_append] at hv
          simp only [List.length_append, List.length_map, Array.length_toList, h1] at hi
          simp only [Array.size_append, Array.size_map] at hv
          split at hi
          · rename_i hlt
            rw [if_pos hlt] at hv
            rw [List.getElem?_append] at hi
            rw [Array.getElem?_append] at hv
            rw [h1] at hi
            split at hi
            · rename_i hlt2
              rw [if_pos hlt2] at hv
              exact h3 i e v hi hv
            · rename_i hlt2
              rw [if_neg hlt2] at hv
              simp only [List.getElem?_map, Array.getElem?_map, Option.map_eq_some_iff] at hi hv
              obtain ⟨x, hx, rfl⟩ := hi
              obtain ⟨y, hy, rfl⟩ := hv
              have : x = y := by have : k.args.toList[i - fs.size]? = some y := by simpa using hy
                                 rw [hx] at this; cases this; rfl
              subst this
              exact hall x (by simp only [Call.operands]; exact Array.mem_append.2 (.inr (Array.mem_of_getElem? hy)))
          · rename_i hlt
            rw [if_neg hlt] at hv
            exact h4 _ e v hi hv
      unfold conE at h
      split at h
      · cases h
      · rename_i l a h1
        split at h
        · cases h
        · rename_i l' a' h2
          split at h
          · cases h
          · cases h
          · rename_i x hp h3
            have main : ∀ (y : c.outs.den) ws, c.F x = some y → refillB rd a' 0 c.boxes ((unpackL c.outs c.nout y).drop c.rs.length) = some ws → ∀ B ow bx nb bg w (act : Act), Inv B ow bx nb bg w → Args ow bx w A act.eval o.op →
                (∀ b ∈ a'.map (·.2), bg b = rd b) → Goes P B ow bx nb bg w act o id (resEV ((unpackL c.outs c.nout y).take c.rs.length)) none ws := by
              intro y ws h4 h5 B ow bx nb bg w act hi hA hrd
              obtain ⟨fs, cs, hf, hrl⟩ := hargs hA
              exact goes_call hc (enter_run hc ho hk hf) (setEnv_call hc h1 h2 hp h3 h4 h5 id hi hrl hrd)
            cases g with
            | none =>
              simp only at h
              cases hF : c.F x with
              | none => rw [hF] at h; cases h
              | some y =>
                rw [hF] at h
                simp only [Option.bind_some] at h
                split at h
                · rename_i ws hws
                  refine ⟨_, _, _, _, h, fun h => (by cases h), fun z hz => ?_, fun _ B ow bx nb bg w act hi hA hb _ => main y ws hF hws B ow bx nb bg w act hi hA hb⟩
                  obtain ⟨j, hj⟩ := List.getElem?_of_mem hz
                  have : ∀ (bs : List (List PT)) (i : Nat) (new : List EV) (ws : List Wr), refillB rd a' i bs new = some ws → ∀ z ∈ ws, z.b ∈ a'.map (·.2) ∧ ∃ cs, rd z.b = some cs ∧ z.off + z.new.length ≤ cs.length := by
                    intro bs
                    induction bs with
                    | nil => intro i new ws h; simp only [refillB] at h; cases h; simp
                    | cons pts bs ih =>
                      intro i new ws h
                      simp only [refillB] at h
                      split at h
                      · rename_i b hb
                        split at h
                        · rename_i cs hcs
                          split at h
                          · rename_i out rest hr0
                            split at h
                            · rename_i hr
                              cases h
                              intro z hz
                              rcases List.mem_cons.1 hz with rfl | hz
                              · exact ⟨List.mem_map.2 ⟨_, asgGet_mem _ _ _ hb, rfl⟩, cs, hcs, by simp only [Nat.zero_add]; rw [refill_length _ _ _ _ _ hr0]; exact Nat.le_refl _⟩
                              · exact ih _ _ _ hr z hz
                            · cases h
                          · cases h
                        · cases h
                      · cases h
                  exact this _ _ _ _ hws z hz
                · cases h
            | some b =>
              simp only at h
              split at h
              · rename_i hbx
                cases hF : (bif b then c.F x else some c.outs.dflt) with
                | none => rw [hF] at h; cases h
                | some y =>
                  rw [hF] at h
                  simp only [Option.bind_some] at h
                  refine ⟨_, _, _, _, h, fun _ => ⟨rfl, rfl⟩, fun z hz => (by cases hz), fun hg B ow bx nb bg w act hi hA hb _ => ?_⟩
                  have hbt : b = true := by cases b with
                    | true => rfl
                    | false => exact absurd rfl hg
                  subst hbt
                  simp only [cond_true] at hF
                  refine main y [] hF (by rw [hbx]; rfl) B ow bx nb bg w act hi hA (fun b hb => ?_)
                  -- no boxes: no references
                  have hab : a' = [] := by
                    simp only [conPlain, Bool.and_eq_true] at hp
                    have hbel := hp.1.2
                    rw [hbx] at hbel
                    cases a' with
                    | nil => rfl
                    | cons p r => simp [asgBelow, Nat.ble] at hbel
                  rw [hab] at hb
                  simp at hb
              · cases h
    · cases h
  · cases h
/-- Each operation does what the reading says. -/
theorem op_sound (hΓ : CxOK P Γ) (h : opE Γ id rd g A o.op q = some r) : Sound P id rd g A o q r := by
  cases ho : o.op <;> rw [ho] at h
  case move x => exact sound_move (.inl ho) h
  case assign x => exact sound_move (.inr ho) h
  case pick c a b =>
    simp only [opE] at h
    split at h
    · rename_i x hx; exact sound_pick ho h ⟨x, hx⟩
    · cases h
  case alloc t => exact sound_alloc hΓ ho h
  case box t x => exact sound_box ho h
  case build t ps => exact sound_build hΓ ho h
  case buildSlice t n ps => exact sound_buildSlice hΓ ho h
  case load t a => exact sound_load hΓ ho h
  case store t a x => exact sound_store hΓ ho h
  case nilCheck x => exact sound_nilCheck ho h
  case binOp op T x y yT => exact sound_bin hΓ ho h
  case unOp op T x => exact sound_un ho h
  case convert s d x => exact sound_convert hΓ ho h
  case makeFunc fn a b => exact sound_makeFunc ho h
  case slice t x lo hi mx => exact sound_slice hΓ ho h
  case fieldAddr t x i => exact sound_fieldAddr hΓ ho h
  case field t x i => exact sound_field hΓ ho h
  case indexAddr t x i => exact sound_indexAddr hΓ ho h
  case index t x i => exact sound_index hΓ ho h
  case extract x i => exact sound_extract ho h
  case call c =>
    cases hc : c.callee with
    | value f => exact sound_call hΓ ho hc h
    | invoke x m => simp only [opE, hc] at h; cases h
    | builtin b =>
      cases b
      case len => exact sound_len hΓ ho hc h
      case max => exact sound_minMax (mx := true) ho hc h
      case min => exact sound_minMax (mx := false) ho hc h
      all_goals (simp only [opE, hc] at h; cases h)
  all_goals (simp only [opE] at h; cases h)
end
end Go.Proofs.Ytckghclpdfbigaa
