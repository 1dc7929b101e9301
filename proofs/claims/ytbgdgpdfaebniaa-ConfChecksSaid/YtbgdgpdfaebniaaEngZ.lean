/- A function does what its reading says. No program in sight. -/
import Derived.Test.YtbgdgpdfaebniaaEngY
set_option linter.unusedSimpArgs false
set_option linter.unusedVariables false
namespace Go.Proofs.Ytbgdgpdfaebniaa
theorem fillB_length : ∀ (bs : List (List PT)) (d : List EV), (fillB bs d).length = bs.length
  | [], _ => rfl
  | p :: r, d => by
    simp [fillB, fillB_length r]
theorem sameAsg_ok (n : Nat) : AsgOK (sameAsg n) := by
  have mem : ∀ i b, (i, b) ∈ sameAsg n → b = i := by
    intro i b h
    obtain ⟨j, _, hj⟩ := List.mem_map.1 h
    cases hj
    rfl
  refine ⟨fun i b h => ?_, fun i j b h1 h2 => by rw [← mem i b h1, mem j b h2]⟩
  have := mem i b h
  subst this
  have : ∀ (l : List (Nat × Nat)) (i : Nat), (i, i) ∈ l → (∀ j c, (j, c) ∈ l → c = j) → asgGet l i = some i := by
    intro l i
    induction l with
    | nil => intro h; simp at h
    | cons p r ih =>
      intro hm hall
      obtain ⟨k, c⟩ := p
      have := hall k c (by simp)
      subst this
      simp only [asgGet]
      cases hb : Nat.beq c i with
      | true =>
        have := Nat.eq_of_beq_eq_true hb
        subst this
        rfl
      | false =>
        rcases List.mem_cons.1 hm with e | e
        · cases e; rw [Nat.beq_refl] at hb; cases hb
        · exact ih e fun j c h => hall j c (by simp [h])
  exact this _ _ h mem
theorem sameAsg_mem {n i : Nat} (h : i < n) : (i, i) ∈ sameAsg n := List.mem_map.2 ⟨i, List.mem_range.2 h, rfl⟩
theorem matchB_dat {rd : Nat → Option (List EV)} : ∀ (bs : List (List PT)) (i : Nat) (a : List (Nat × Nat)) (l : List EV) (a' : List (Nat × Nat)), matchB rd i bs a = some (l, a') → ∀ e ∈ l, ∃ t v, e = EV.dat t v := by
  intro bs
  induction bs with
  | nil => intro i a l a' h; simp only [matchB] at h; cases h; simp
  | cons pts r ih =>
    intro i a l a' h
    simp only [matchB] at h
    split at h
    · split at h
      · split at h
        · rename_i hm
          split at h
          · rename_i hr
            cases h
            intro e he
            rcases List.mem_append.1 he with he | he
            · exact matchP_dat _ _ _ _ _ _ hm e he
            · exact ih _ _ _ _ hr e he
          · cases h
        · cases h
      · cases h
    · cases h
theorem matchP_res {ow : Nat → Owner} {bx : Bx} {w : World} : ∀ (n : Nat) (rs : List PT) (vs : List EV) (a : List (Nat × Nat)) (l : List EV) (a' : List (Nat × Nat)), matchP n rs vs a = some (l, a') → ptDat rs = true →
    l.length = vs.length ∧ ∀ (i : Nat) e e' v, vs[i]? = some e → l[i]? = some e' → RepEV ow bx w e v → RepEV ow bx w e' v := by
  intro n
  induction n with
  | zero => intro rs vs a l a' h; simp only [matchP] at h; cases h
  | succ n ih =>
    intro rs vs a l a' h hd
    cases rs with
    | nil =>
      cases vs with
      | nil => simp only [matchP] at h; cases h; exact ⟨rfl, fun i e e' v he => by simp at he⟩
      | cons v vs => simp only [matchP] at h; cases h
    | cons p ps =>
      cases p with
      | dat t =>
        cases vs with
        | nil => simp only [matchP] at h; cases h
        | cons e0 es =>
          simp only [matchP] at h
          split at h
          · rename_i x hx
            split at h
            · rename_i h1
              cases h
              obtain ⟨k1, k2⟩ := ih _ _ _ _ _ h1 hd
              refine ⟨by simp [k1], fun i e e' v he he' hr => ?_⟩
              cases i with
              | zero =>
                simp at he he'
                subst he he'
                exact .dat (toA_rep hx hr)
              | succ i => exact k2 i e e' v (by simpa using he) (by simpa using he') hr
            · cases h
          · cases h
      | own t => simp [ptDat] at hd
      | ref i off => simp [ptDat] at hd
      | clo f x y => simp [ptDat] at hd
      | sl x => simp [ptDat] at hd
theorem getD_of {a : Array Value} {i : Nat} {v : Value} (h : a[i]? = some v) : a.getD i undef = v := by
  simp [h]
def resF (tmps : Array Value) : ResultVar → Sem Value
  | .tmp t => pure (tmps.getD t undef)
  | .cell a t => do loadVar t (← asAddr (tmps.getD a undef))
theorem results_resF (fn : Func) (tmps : Array Value) : results fn tmps = (do
    let vs ← fn.results.mapM (resF tmps)
    pure (if h : vs.size = 1 then vs[0] else .tuple vs)) := by
  unfold results
  congr 1
/-- The results of a call. -/
theorem res_run {P : Program} {Γ : Cx} (hΓ : CxOK P Γ) {τ : St} {a : Act} {w : World} {B : Base} {ow : Nat → Owner} {bx : Bx} {nb : Nat} (hi : Inv B ow bx nb (boxGet τ.boxes) w) (hs : ∀ t e, τ.slots[t]? = some e → RepEV ow bx w e (a.tmps.getD t undef)) :
    ∀ (rv : List ResultVar) (vs : List EV), resE Γ τ rv = some vs → ∃ us : List Value, (rv.mapM (resF a.tmps)).run P w = .ok us w ∧ us.length = vs.length ∧ ∀ (i : Nat) e u, vs[i]? = some e → us[i]? = some u → RepEV ow bx w e u
  | [], vs, h => by
    simp only [resE] at h
    cases h
    exact ⟨[], by simp, rfl, fun i e u he => by simp at he⟩
  | .tmp t :: r, vs, h => by
    simp only [resE] at h
    split at h
    · rename_i e he
      split at h
      · rename_i l hl
        cases h
        obtain ⟨us, h1, h2, h3⟩ := res_run hΓ hi hs r l hl
        refine ⟨a.tmps.getD t undef :: us, ?_, by simp [h2], fun i e' u he' hu => ?_⟩
        · rw [List.mapM_cons]
          simp only [resF, Sem.run_bind, Sem.run_pure, Result.andThen_ok]
          rw [h1]
          simp
        · cases i with
          | zero => simp at he' hu; subst he' hu; have := hs t e he; simpa using this
          | succ i => exact h3 i e' u (by simpa using he') (by simpa using hu)
      · cases h
    · cases h
  | .cell b t :: r, vs, h => by
    simp only [resE] at h
    split at h
    · rename_i bb off he
      split at h
      · rename_i cs hcs
        split at h
        · rename_i d hd
          split at h
          · rename_i e hre
            split at h
            · rename_i l hl
              cases h
              obtain ⟨us, h1, h2, h3⟩ := res_run hΓ hi hs r l hl
              have hp := hs b _ he
              obtain ⟨w1, c, U, hc, hr⟩ := hi.box bb cs hcs
              obtain ⟨u, g1, g2, _⟩ := read_run (P := P) (hΓ.td t d hd) (base := 0) hre hc (vs := c.toList) (fun i v h => by rw [Nat.zero_add]; exact toList_get h) hr
              rw [Nat.zero_add] at g1
              refine ⟨u :: us, ?_, by simp [h2], fun i e' u' he' hu => ?_⟩
              · rw [List.mapM_cons, Sem.run_bind]
                have hf : (resF a.tmps (.cell b t)).run P w = .ok u w := by
                  simp only [resF, Sem.run_bind]
                  generalize a.tmps.getD b undef = pv at hp ⊢
                  cases hp with
                  | ptr hq => simp only [asAddr, Sem.run_pure, Result.andThen_ok, g1]
                rw [hf]
                simp only [Result.andThen_ok, Sem.run_bind]
                rw [h1]
                simp
              · cases i with
                | zero => simp at he' hu; subst he' hu; exact g2
                | succ i => exact h3 i e' u' (by simpa using he') (by simpa using hu)
            · cases h
          · cases h
        · cases h
      · cases h
    · cases h
theorem con_of_run {P : Program} {Γ : Cx} (hΓ : CxOK P Γ) (hm : P.follows .mixedOrders = true) {c : Con} {fn : Func} {code : Code} {h : Hint} (hf : P.funcs[c.f]? = some fn) (hb : fn.body = some code)
    (hn : (fn.name == "runtime.NumGoroutine") = false) (hrun : runE Γ c fn h = c.F) : ConOK P c := by
  refine ⟨⟨fn, hf, by rw [hb]; rfl, hn⟩, ?_⟩
  intro x y hy w ow bx args hbd hinv hargs
  have hr : runE Γ c fn h x = some y := by rw [hrun]; exact hy
  unfold runE at hr
  rw [hb] at hr
  simp only at hr
  have hσ : initE c fn.ntmps x = ⟨c.args0 x ++ List.replicate (fn.ntmps - (c.args0 x).length) .undef, c.boxes0 x, []⟩ := rfl
  have hbl : (c.boxes0 x).length = c.boxes.length := fillB_length _ _
  have hrel : RelE ⟨w, fun blk => ∃ b, ow blk = .box b, ow, c.boxes.length, bx⟩ (initE c fn.ntmps x) { tmps := args ++ Array.replicate (fn.ntmps - args.size) undef, defers := [] } w := by
    rw [hσ]
    refine ⟨ow, bx, by simp only [hbl]; exact hinv, ⟨?_, fun t e he => ?_⟩, rfl, hbd⟩
    · have := hargs.1
      simp [this]
    · simp only at he
      have hl := hargs.1
      by_cases hlt : t < (c.args0 x).length
      · rw [List.getElem?_append_left hlt] at he
        obtain ⟨v, hv⟩ : ∃ v, args[t]? = some v := ⟨_, Array.getElem?_eq_getElem (by omega)⟩
        have : (args ++ Array.replicate (fn.ntmps - args.size) undef).getD t undef = v := by
          apply getD_of
          rw [Array.getElem?_append_left (by omega)]
          exact hv
        rw [this]
        exact hargs.2 t e v he hv
      · rw [List.getElem?_append_right (by omega), List.getElem?_replicate] at he
        split at he
        · cases he; exact .undef _
        · cases he
  refine calls_of_wp hf hb (wp_mono (code_sound hΓ hm code h _ _ _ y hr _ _ w hrel) ?_)
  rintro e a' w' ⟨ex, τ, rfl, hk, ⟨ow', bx', i1, ⟨s1, r1⟩, hd, hdd⟩, hevo⟩
  have main : finE Γ c fn.results.toList τ = some y → a'.defers = [] ∧ ∃ v, (results fn a'.tmps).run P w' = .ok v w' ∧
      ∃ v' ow'', Ending.returned v = .returned v' ∧ Inv ⟨w, fun blk => ∃ b, ow blk = .box b, ow, c.boxes.length, bx⟩ ow'' bx c.boxes.length (boxGet (c.boxes1 y)) w' ∧ RepEV ow'' bx w' (c.res y) v' := by
    intro hfin
    refine ⟨hd, ?_⟩
    unfold finE at hfin
    split at hfin
    · rename_i vs hvs
      split at hfin
      · rename_i l a1 hm1
        split at hfin
        · rename_i l' af hm2
          split at hfin
          · rename_i hc
            simp only [conFin, Bool.and_eq_true] at hc
            obtain ⟨⟨⟨⟨⟨hbs, hlt⟩, hrs⟩, hno⟩, hbel⟩, hnl⟩ := hc
            have hno := Nat.eq_of_beq_eq_true hno
            have hnl := Nat.eq_of_beq_eq_true hnl
            have hbelow := asgBelow_spec _ _ hbel
            obtain ⟨us, g1, g2, g3⟩ := res_run hΓ i1 r1 fn.results.toList vs hvs
            obtain ⟨k1, k2⟩ := matchP_res (ow := ow') (bx := bx') (w := w') _ _ _ _ _ _ hm1 hrs
            obtain ⟨b1, b2, b3, b4⟩ := matchB_fill c.boxes 0 _ l' af hm2 hbs
            have hok : AsgOK af := b1 (sameAsg_ok _)
            have htr := trCall hok ow' bx'
            have hsame : ∀ i b, (i, b) ∈ af → b = i := by
              intro i b h
              have h1 := hok.key i b h
              have h2 := hok.key i i (b2 _ (sameAsg_mem (hbelow i b h)))
              rw [h1] at h2
              cases h2
              rfl
            have hun : unpackL c.outs c.nout y = l ++ l' := by
              have := packL_unpackL c.outs (l ++ l') y hfin (fun e he => by
                rcases List.mem_append.1 he with he | he
                · exact matchP_dat _ _ _ _ _ _ hm1 e he
                · exact matchB_dat _ _ _ _ _ hm2 e he)
              rw [hno] at this
              exact this
            have hres : c.res y = resEV l := by unfold Con.res; rw [hun, ← hnl, List.take_left]
            have hboxes : c.boxes1 y = fillB c.boxes l' := by unfold Con.boxes1; rw [hun, ← hnl, List.drop_left]
            have hdatl : ∀ e ∈ l, ∃ t v, e = EV.dat t v := matchP_dat _ _ _ _ _ _ hm1
            -- which block a box is
            have hbx : ∀ b, b < c.boxes.length → bx' b = bx b := fun b hb => (i1.kept b hb).1
            have hbc : ∀ b, b < c.boxes.length → bxCall af bx' b = bx b := by
              intro b hb
              have := hok.key b b (b2 _ (sameAsg_mem hb))
              simp [bxCall, this, hbx b hb]
            have hcall : ∀ blk i, owCall af ow' blk = .box i → ow' blk = .box i ∧ i < c.boxes.length ∧ blk = bx i := by
              intro blk i h
              unfold owCall at h
              split at h
              · cases h
              · rename_i b hb
                split at h
                · rename_i j hj
                  cases h
                  have hmem := asgInv_mem _ _ _ hj
                  have := hsame _ _ hmem
                  subst this
                  have hlt := hbelow _ _ hmem
                  exact ⟨hb, hlt, by rw [← hbx _ hlt]; exact (i1.back blk _ hb).1⟩
                · cases h
              · cases h
              · cases h
              · cases h
            have hkeep : Keeps (owCall af ow') (bxCall af bx') w' (owCall af ow') bx w' :=
              ⟨.refl _ _, fun blk k fr h _ => ⟨h, rfl⟩, fun _ _ => rfl, fun b h => by
                obtain ⟨_, q2, q3⟩ := hcall _ _ h
                exact ⟨(hbc b q2).symm, h⟩⟩
            -- the value
            have hvals : ∀ (i : Nat) e u, l[i]? = some e → us[i]? = some u → RepEV (owCall af ow') bx w' e u := by
              intro i e u he hu
              have hil : i < vs.length := by rw [← k1]; exact (List.getElem?_eq_some_iff.1 he).1
              have h2 := k2 i _ e u (List.getElem?_eq_getElem hil) he (g3 i _ u (List.getElem?_eq_getElem hil) hu)
              obtain ⟨t, z, rfl⟩ := hdatl e (List.mem_of_getElem? he)
              cases h2 with
              | dat h2 => exact .dat (h2.keep (KeepSt.of fun blk n hs => ⟨htr.st blk n hs, rfl⟩))
            have hlus : us.length = l.length := by rw [g2, k1]
            have hval : ∃ v, (results fn a'.tmps).run P w' = .ok v w' ∧ RepEV (owCall af ow') bx w' (resEV l) v := by
              refine ⟨if h : us.toArray.size = 1 then us.toArray[0] else .tuple us.toArray, ?_, ?_⟩
              · rw [results_resF, Array.mapM_eq_mapM_toList]
                simp only [Sem.run_bind, map_eq_pure_bind, Sem.run_pure]
                rw [g1]
                simp
              · match l, us, hlus, hvals with
                | [], [], _, _ => exact .tup rfl fun i e v he => by simp at he
                | [e], [u], _, hv => exact hv 0 e u rfl rfl
                | e1 :: e2 :: l, u1 :: u2 :: us, hl, hv =>
                  rw [dif_neg (by simp)]
                  exact .tup (by simpa using hl.symm) fun i e v he hu => hv i e v he (by simpa using hu)
            obtain ⟨v, hv1, hv2⟩ := hval
            refine ⟨v, hv1, v, owCall af ow', rfl, ?_, by rw [hres]; exact hv2⟩
            rw [hboxes]
            constructor
            · intro i cs' hcs'
              rw [boxGet_spec] at hcs'
              have hlt' : i < c.boxes.length := by rw [← b3]; exact (List.getElem?_eq_some_iff.1 hcs').1
              obtain ⟨b, cs, cs'', q1, q2, q3, q4, q5, _⟩ := b4 i hlt'
              rw [hcs'] at q3
              cases q3
              rw [Nat.zero_add] at q1
              have := hsame _ _ q1
              subst this
              obtain ⟨w1, c0, T, w2, w3⟩ := i1.box b cs q2
              obtain ⟨t1, t2⟩ := htr.bo b b q1 w1
              rw [hbx b hlt'] at t2 w2
              refine ⟨t2, c0, T, w2, by rw [q4, w3.1], fun k e v he hv => ?_⟩
              have hkl : k < cs.length := by rw [← q4]; exact (List.getElem?_eq_some_iff.1 he).1
              obtain ⟨z1, z2⟩ := w3.2 k _ v (List.getElem?_eq_getElem hkl) hv
              exact ⟨(q5 ow' _ bx' _ w' htr k _ e v (List.getElem?_eq_getElem hkl) he z1).keep hkeep, z2⟩
            · intro blk i h
              obtain ⟨q1, q2, q3⟩ := hcall blk i h
              obtain ⟨b, cs, cs'', z1, z2, z3, _⟩ := b4 i q2
              exact ⟨q3, by rw [boxGet_spec.2 z3]; rfl, q2⟩
            · intro blk h
              refine i1.here blk fun e => h ?_
              simp [owCall, e]
            · intro blk hb hnm
              obtain ⟨q1, q2, q3⟩ := i1.old blk hb hnm
              have : owCall af ow' blk = ow' blk := by
                unfold owCall
                cases hob : ow' blk with
                | box b => exact absurd hob (q3.1 b)
                | tok k fr => exact absurd hob (q3.2 k fr)
                | _ => rfl
              exact ⟨q1, by rw [this]; exact q2, by rw [this]; exact q3⟩
            · exact i1.size
            · exact i1.env
            · intro b hb'
              obtain ⟨b', cs, cs'', z1, z2, z3, _⟩ := b4 b hb'
              exact ⟨rfl, by rw [boxGet_spec.2 z3]; rfl⟩
          · cases hfin
        · cases hfin
      · cases hfin
    · cases hfin
  cases ex with
  | normal => exact main hk
  | ret => exact main hk
  | exit id => cases hk
/-- A function that makes a variable and hands out where it is. -/
theorem ncon_of_run {P : Program} {Γ : Cx} (hΓ : CxOK P Γ) (hm : P.follows .mixedOrders = true) {c : NCon} {fn : Func} {code : Code} {h : Hint} (hf : P.funcs[c.f]? = some fn) (hb : fn.body = some code)
    (hn : (fn.name == "runtime.NumGoroutine") = false) (hrun : runN Γ c fn h = c.F) : NOK P c := by
  refine ⟨⟨fn, hf, by rw [hb]; rfl, hn⟩, ?_⟩
  intro x y hy w ow bx args hbd hinv hargs
  have hr : runN Γ c fn h x = some y := by rw [hrun]; exact hy
  unfold runN at hr
  rw [hb] at hr
  simp only at hr
  have hσ : initN c fn.ntmps x = ⟨c.args0 x ++ List.replicate (fn.ntmps - (c.args0 x).length) .undef, [], []⟩ := rfl
  have hrel : RelE ⟨w, fun _ => False, ow, 0, bx⟩ (initN c fn.ntmps x) { tmps := args ++ Array.replicate (fn.ntmps - args.size) undef, defers := [] } w := by
    rw [hσ]
    refine ⟨ow, bx, hinv, ⟨?_, fun t e he => ?_⟩, rfl, hbd⟩
    · have := hargs.1
      simp [this]
    · simp only at he
      have hl := hargs.1
      by_cases hlt : t < (c.args0 x).length
      · rw [List.getElem?_append_left hlt] at he
        obtain ⟨v, hv⟩ : ∃ v, args[t]? = some v := ⟨_, Array.getElem?_eq_getElem (by omega)⟩
        have : (args ++ Array.replicate (fn.ntmps - args.size) undef).getD t undef = v := by
          apply getD_of
          rw [Array.getElem?_append_left (by omega)]
          exact hv
        rw [this]
        exact hargs.2 t e v he hv
      · rw [List.getElem?_append_right (by omega), List.getElem?_replicate] at he
        split at he
        · cases he; exact .undef _
        · cases he
  refine calls_of_wp hf hb (wp_mono (code_sound hΓ hm code h _ _ _ y hr _ _ w hrel) ?_)
  rintro e a' w' ⟨ex, τ, rfl, hk, ⟨ow', bx', i1, ⟨s1, r1⟩, hd, hdd⟩, hevo⟩
  have main : finN Γ c fn.results.toList τ = some y → a'.defers = [] ∧ ∃ v, (results fn a'.tmps).run P w' = .ok v w' ∧
      ∃ v' ow'' bx'', Ending.returned v = .returned v' ∧ (∀ k, bx''.dead k = false) ∧ Inv ⟨w, fun _ => False, ow, 0, bx⟩ ow'' bx'' 1 (boxGet [some (c.new1 y)]) w' ∧ RepEV ow'' bx'' w' (c.res y) v' := by
    intro hfin
    refine ⟨hd, ?_⟩
    unfold finN at hfin
    split at hfin
    · rename_i vs hvs
      split at hfin
      · rename_i l a1 hm1
        split at hfin
        · rename_i b hab
          split at hfin
          · rename_i cs hcs
            split at hfin
            · rename_i l' af hm2
              split at hfin
              · rename_i hc
                simp only [nconFin, Bool.and_eq_true] at hc
                obtain ⟨⟨⟨hrs, hnw⟩, hno⟩, hbel⟩ := hc
                have hno := Nat.eq_of_beq_eq_true hno
                have hbelow := asgBelow_spec _ _ hbel
                obtain ⟨us, g1, g2, g3⟩ := res_run hΓ i1 r1 fn.results.toList vs hvs
                obtain ⟨k1, k2, k3⟩ := match_fill (ow := ow') (ow' := owCall af ow') (bx := bx') (bx' := bxCall af bx') (w := w') 200 true c.rs vs [] l a1 hm1 hrs
                obtain ⟨n1, n2, n3⟩ := match_fill (ow := ow') (ow' := owCall af ow') (bx := bx') (bx' := bxCall af bx') (w := w') 200 false c.new cs a1 l' af hm2 hnw
                have hok : AsgOK af := n1 (k1 .nil)
                have htr := trCall hok ow' bx'
                have hmem : (0, b) ∈ af := n2 _ (asgGet_mem _ _ _ hab)
                have hun : unpackL c.outs c.nout y = l ++ l' := by
                  have := packL_unpackL c.outs (l ++ l') y hfin (fun e he => by
                    rcases List.mem_append.1 he with he | he
                    · exact matchP_dat _ _ _ _ _ _ hm1 e he
                    · exact matchP_dat _ _ _ _ _ _ hm2 e he)
                  rwa [hno] at this
                obtain ⟨es', f1, f2, f3⟩ := k3 l'
                obtain ⟨ns', f4, f5, f6⟩ := n3 []
                rw [List.append_nil] at f4
                have hres : c.res y = resEV es' := by unfold NCon.res; rw [hun, f1]
                have hnew : c.new1 y = ns' := by unfold NCon.new1; rw [hun, f1]; simp only; rw [f4]
                have hvals : ∀ (i : Nat) e u, es'[i]? = some e → us[i]? = some u → RepEV (owCall af ow') (bxCall af bx') w' e u := by
                  intro i e u he hu
                  have hil : i < vs.length := by rw [← f2]; exact (List.getElem?_eq_some_iff.1 he).1
                  exact f3 af n2 htr i _ e u (List.getElem?_eq_getElem hil) he (g3 i _ u (List.getElem?_eq_getElem hil) hu)
                have hlus : us.length = es'.length := by rw [g2, f2]
                have hval : ∃ v, (results fn a'.tmps).run P w' = .ok v w' ∧ RepEV (owCall af ow') (bxCall af bx') w' (resEV es') v := by
                  refine ⟨if h : us.toArray.size = 1 then us.toArray[0] else .tuple us.toArray, ?_, ?_⟩
                  · rw [results_resF, Array.mapM_eq_mapM_toList]
                    simp only [Sem.run_bind, map_eq_pure_bind, Sem.run_pure]
                    rw [g1]
                    simp
                  · match es', us, hlus, hvals with
                    | [], [], _, _ => exact .tup rfl fun i e v he => by simp at he
                    | [e], [u], _, hv => exact hv 0 e u rfl rfl
                    | e1 :: e2 :: l, u1 :: u2 :: us, hl, hv =>
                      rw [dif_neg (by simp)]
                      exact .tup (by simpa using hl.symm) fun i e v he hu => hv i e v he (by simpa using hu)
                obtain ⟨v, hv1, hv2⟩ := hval
                refine ⟨v, hv1, v, owCall af ow', bxCall af bx', rfl, fun _ => rfl, ?_, by rw [hres]; exact hv2⟩
                rw [hnew]
                obtain ⟨w1, c0, T, w2, w3⟩ := i1.box b cs hcs
                obtain ⟨t1, t2⟩ := htr.bo 0 b hmem w1
                have hcall : ∀ blk i, owCall af ow' blk = .box i → i = 0 ∧ ow' blk = .box b ∧ blk = bx' b := by
                  intro blk i h
                  unfold owCall at h
                  split at h
                  · cases h
                  · rename_i b' hb'
                    split at h
                    · rename_i j hj
                      simp only [Owner.box.injEq] at h
                      have hmj := asgInv_mem _ _ _ hj
                      have hj0 := hbelow _ _ hmj
                      have hj0 : j = 0 := by omega
                      subst hj0
                      subst h
                      have q1 := hok.key 0 b' hmj
                      rw [hok.key 0 b hmem] at q1
                      cases q1
                      exact ⟨rfl, hb', (i1.back blk _ hb').1⟩
                    · cases h
                  · cases h
                  · cases h
                  · cases h
                constructor
                · intro i cs' hcs'
                  rw [boxGet_spec] at hcs'
                  cases i with
                  | succ i => simp at hcs'
                  | zero =>
                    simp only [List.getElem?_cons_zero, Option.some.injEq] at hcs'
                    subst hcs'
                    rw [t1]
                    refine ⟨t2, c0, T, w2, by rw [f5, w3.1], fun k e v he hv => ?_⟩
                    have hkl : k < cs.length := by rw [← f5]; exact (List.getElem?_eq_some_iff.1 he).1
                    obtain ⟨z1, z2⟩ := w3.2 k _ v (List.getElem?_eq_getElem hkl) hv
                    exact ⟨f6 af (fun p hp => hp) htr k _ e v (List.getElem?_eq_getElem hkl) he z1, z2⟩
                · intro blk i h
                  obtain ⟨rfl, _, q3⟩ := hcall blk i h
                  exact ⟨by rw [t1]; exact q3, rfl, by omega⟩
                · intro blk h
                  refine i1.here blk fun e => h ?_
                  simp [owCall, e]
                · intro blk hb hnm
                  obtain ⟨q1, q2, q3⟩ := i1.old blk hb hnm
                  have : owCall af ow' blk = ow' blk := by
                    unfold owCall
                    cases hob : ow' blk with
                    | box b => exact absurd hob (q3.1 b)
                    | tok k fr => exact absurd hob (q3.2 k fr)
                    | _ => rfl
                  exact ⟨q1, by rw [this]; exact q2, by rw [this]; exact q3⟩
                · exact i1.size
                · exact i1.env
                · intro b hb'; simp at hb'
              · cases hfin
            · cases hfin
          · cases hfin
        · cases hfin
      · cases hfin
    · cases hfin
  cases ex with
  | normal => exact main hk
  | ret => exact main hk
  | exit id => cases hk
end Go.Proofs.Ytbgdgpdfaebniaa
