/- Each operation does what the reading says: all of them. No program in sight. -/
import Derived.Test.YtbgdgpdfaebniaaEngP
set_option linter.unusedSimpArgs false
set_option linter.unusedVariables false
namespace Go.Proofs.Ytbgdgpdfaebniaa
section
variable {ρ : Type} {P : Program} {Γ : Cx} {id : Nat} {rd : Nat → Option (List EV)} {g : Option Bool} {A : Operand → EV} {o : Oper} {q : EV → Option (List EV) → List Wr → List Nat → Option ρ} {r : ρ}
theorem refill_length : ∀ (ps : List PT) (cs new out rest : List EV), refill ps cs new = some (out, rest) → out.length = cs.length := by
  intro ps
  induction ps with
  | nil =>
    intro cs new out rest h
    cases cs with
    | nil => simp only [refill] at h; cases h; rfl
    | cons c cs => simp only [refill] at h; cases h
  | cons p ps ih =>
    intro cs new out rest h
    cases cs with
    | nil => cases p <;> simp only [refill] at h <;> cases h
    | cons c cs =>
      cases p with
      | own t => simp only [refill] at h; cases h
      | dat t =>
        cases new with
        | nil => simp only [refill] at h; cases h
        | cons x new =>
          simp only [refill] at h
          split at h
          · rename_i h1; cases h; simp [ih _ _ _ _ h1]
          · cases h
      | ref i off =>
        simp only [refill] at h
        split at h
        · rename_i h1; cases h; simp [ih _ _ _ _ h1]
        · cases h
      | sl b => simp only [refill] at h; cases h
      | clo f a b =>
        simp only [refill] at h
        split at h
        · rename_i h1; cases h; simp [ih _ _ _ _ h1]
        · cases h
theorem conFind_spec {f : Nat} {ok : Con → Bool} : ∀ (l : List Con) (c : Con), conFind f ok l = some c → c ∈ l ∧ c.f = f
  | [], c, h => by cases h
  | d :: r, c, h => by
    simp only [conFind] at h
    split at h
    · rename_i hk
      cases h
      simp only [Bool.and_eq_true] at hk
      exact ⟨by simp, Nat.eq_of_beq_eq_true hk.1⟩
    · obtain ⟨h1, h2⟩ := conFind_spec r c h
      exact ⟨by simp [h1], h2⟩
theorem goes_call {c : Con} {B : Base} {ow : Nat → Owner} {bx : Bx} {nb : Nat} {bg : Nat → Option (List EV)} {w : World} {a : Act} {args : Array Value} {v : EV} {ws : List Wr} (hc : ConOK P c)
    (hrun : (execOp a.eval o).run P w = .ok (.enter c.f args) w)
    (h : Calls P c.f args w fun e w' => ∃ u ow', e = .returned u ∧ Keeps ow bx w ow' bx w' ∧ RepEV ow' bx w' v u ∧ Inv B ow' bx nb (upd bg id none ws) w') :
    Goes P B ow bx nb bg w a o id v none ws := by
  intro K Q hK
  unfold Oper.wp
  rw [hrun]
  exact h.mono fun e w' ⟨u, ow', he, h1, h2, h3⟩ => by subst he; exact hK u ow' bx w' h1 h2 h3 rfl
theorem ren_rep {ow ow' : Nat → Owner} {bx bx' : Bx} {w : World} {k : Nat} (hst : ∀ blk n, Rigid ow blk n → Rigid ow' blk n) (hb : ow (bx 0) = .box 0 → bx' k = bx 0 ∧ ow' (bx 0) = .box k) :
    ∀ (n : Nat) (e : EV) (v : Value), RepEV ow bx w e v → RepEV ow' bx' w (ren n k e) v := by
  intro n
  induction n with
  | zero => exact fun e v _ => .undef v
  | succ n ih =>
    intro e v h
    cases h with
    | undef => exact .undef _
    | dat h => exact .dat (h.keep (KeepSt.of fun blk n hs => ⟨hst blk n hs, rfl⟩))
    | nil => exact .undef _
    | own => exact .undef _
    | ptr hq =>
      rename_i b off
      cases b with
      | zero =>
        obtain ⟨h1, h2⟩ := hb hq
        simp only [ren]
        rw [← h1]
        exact .ptr (by rw [h1]; exact h2)
      | succ b => exact .undef _
    | pix => exact .undef _
    | elt => exact .undef _
    | clo h1 h2 h3 h4 =>
      simp only [ren]
      refine .clo (by simp [h1]) (by simp [h2]) (fun i e v he hv => ?_) (fun i e v he hv => ?_)
      · simp only [List.getElem?_map, Option.map_eq_some_iff] at he
        obtain ⟨x, hx, rfl⟩ := he
        exact ih x v (h3 i x v hx hv)
      · simp only [List.getElem?_map, Option.map_eq_some_iff] at he
        obtain ⟨x, hx, rfl⟩ := he
        exact ih x v (h4 i x v hx hv)
    | sl h0 h1 hs hbk h2 h3 =>
      rename_i es blk cap c T fz
      simp only [ren]
      have hl : es.length = (es.map (ren n k)).length := by simp
      rw [hl] at h0 h1 hs h3 ⊢
      refine .sl h0 h1 (hst _ _ hs) hbk (fun i e v he hv => ?_) h3
      simp only [List.getElem?_map, Option.map_eq_some_iff] at he
      obtain ⟨x, hx, rfl⟩ := he
      exact ih x v (h2 i x v hx hv)
    | cp => exact .undef _
    | tup h1 h2 =>
      simp only [ren]
      refine .tup (by simp [h1]) fun i e v he hv => ?_
      simp only [List.getElem?_map, Option.map_eq_some_iff] at he
      obtain ⟨x, hx, rfl⟩ := he
      exact ih x v (h2 i x v hx hv)
    | row => exact .undef _
theorem fill_dat : ∀ (n : Nat) (ps : List PT) (d : List EV), ptDat ps = true → (∀ e ∈ d, ∃ t v, e = .dat t v) → ∀ e ∈ (fillP n ps d).1, ∃ t v, e = .dat t v := by
  intro n
  induction n with
  | zero => intro ps d _ _ e he; simp [fillP] at he
  | succ n ih =>
    intro ps d hp hd e he
    cases ps with
    | nil => simp [fillP] at he
    | cons p ps =>
      cases p with
      | dat t =>
        cases d with
        | nil => simp [fillP] at he
        | cons x d =>
          simp only [fillP] at he
          rcases List.mem_cons.1 he with rfl | he
          · exact hd e (by simp)
          · exact ih ps d hp (fun e he => hd e (by simp [he])) e he
      | own t => simp [ptDat] at hp
      | ref i off => simp [ptDat] at hp
      | clo f a b => simp [ptDat] at hp
      | sl a => simp [ptDat] at hp
theorem fill_rest : ∀ (n : Nat) (ps : List PT) (d : List EV), ∀ e ∈ (fillP n ps d).2, e ∈ d := by
  intro n
  induction n with
  | zero => intro ps d e he; simpa [fillP] using he
  | succ n ih =>
    intro ps d e he
    cases ps with
    | nil => simpa [fillP] using he
    | cons p ps =>
      cases p with
      | dat t =>
        cases d with
        | nil => simp [fillP] at he
        | cons x d =>
          simp only [fillP] at he
          exact List.mem_cons_of_mem _ (ih ps d e he)
      | own t =>
        cases d with
        | nil => simp [fillP] at he
        | cons x d =>
          simp only [fillP] at he
          exact List.mem_cons_of_mem _ (ih ps d e he)
      | ref i off =>
        simp only [fillP] at he
        exact ih ps d e he
      | clo f a b =>
        simp only [fillP] at he
        exact ih a d e (ih b _ e (ih ps _ e he))
      | sl a =>
        simp only [fillP] at he
        exact ih a d e (ih ps _ e he)
/-- A call of a function that makes a variable. -/
theorem setEnv_new {c : NCon} (hc : NOK P c) {es l : List EV} {x : c.ins.den} {y : c.outs.den} (h1 : matchP 200 c.ps es [] = some (l, [])) (hps : ptPlain true 200 c.ps = true) (hnin : l.length = c.nin) (hdn : ptDat c.new = true) (h3 : packL c.ins l = some x) (h4 : c.F x = some y)
    {B : Base} {ow : Nat → Owner} {bx : Bx} {nb : Nat} {bg : Nat → Option (List EV)} {w : World} {args : Array Value} (hi : Inv B ow bx nb bg w) (hargs : RepL ow bx w es args) (hid : bg id = none) (hlt : id < nb) :
    Calls P c.f args w fun e w' => ∃ v ow' bx', e = .returned v ∧ Keeps ow bx w ow' bx' w' ∧ RepEV ow' bx' w' (ren 20 id (c.res y)) v ∧ Inv B ow' bx' nb (upd bg id (some (c.new1 y)) []) w' ∧ bx'.dead = bx.dead := by
  obtain ⟨m1, m2, m3⟩ := match_fill (ow := ow) (ow' := owCall [] ow) (bx := bx) (bx' := bxCall [] bx) (w := w) 200 true c.ps es [] l [] h1 hps
  have htr : TrOK [] ow bx (owCall [] ow) (bxCall [] bx) := trCall .nil ow bx
  obtain ⟨es', f1, f2, f3⟩ := m3 []
  have hun : unpackL c.ins c.nin x = l := by
    have := packL_unpackL c.ins l x h3 (matchP_dat _ _ _ _ _ _ h1)
    rwa [hnin] at this
  have hargs0 : c.args0 x = es' := by
    unfold NCon.args0
    rw [hun]
    rw [List.append_nil] at f1
    rw [f1]
  have hbx : ∀ blk b, owCall [] ow blk ≠ .box b := by
    intro blk b h
    unfold owCall at h
    split at h <;> cases h
  have hnotok : ∀ blk k fr, owCall [] ow blk ≠ .tok k fr := by
    intro blk k fr h
    unfold owCall at h
    split at h <;> cases h
  have hinv0 : Inv ⟨w, fun _ => False, owCall [] ow, 0, bxCall [] bx⟩ (owCall [] ow) (bxCall [] bx) 0 (boxGet []) w := by
    constructor
    · intro b cs h; simp [boxGet] at h
    · intro blk b h; exact absurd h (hbx blk b)
    · intro blk h
      refine hi.here blk fun e => h ?_
      simp [owCall, e]
    · intro blk _ _; exact ⟨rfl, rfl, hbx blk, hnotok blk⟩
    · exact Nat.le_refl _
    · exact ⟨rfl, rfl, rfl⟩
    · intro b hb; simp at hb
  have hrepl : RepL (owCall [] ow) (bxCall [] bx) w (c.args0 x) args := by
    rw [hargs0]
    refine ⟨by rw [f2]; exact hargs.1, fun i e v he hv => ?_⟩
    have hlt : i < es.length := by rw [← f2]; exact (List.getElem?_eq_some_iff.1 he).1
    exact f3 [] (fun p hp => hp) htr i _ e v (List.getElem?_eq_getElem hlt) he (hargs.2 i _ v (List.getElem?_eq_getElem hlt) hv)
  refine (hc.go x y h4 w (owCall [] ow) (bxCall [] bx) args (fun _ => rfl) hinv0 hrepl).mono fun e w' ⟨v, ow', bx', he, hdd, hinv', hv⟩ => ?_
  subst he
  obtain ⟨g1, c0, T, g2, g3⟩ := hinv'.box 0 (c.new1 y) rfl
  have hold : ∀ blk, blk < w.heap.size → w'.heap[blk]? = w.heap[blk]? ∧ ow' blk = owCall [] ow blk := by
    intro blk hlt
    obtain ⟨q1, q2, _⟩ := hinv'.old blk hlt (fun h => h)
    exact ⟨q1, q2⟩
  have hk0 : w.heap.size ≤ bx' 0 := by
    apply Nat.le_of_not_lt
    intro hlt
    rw [(hold _ hlt).2] at g1
    exact hbx _ _ g1
  let ow2 : Nat → Owner := fun blk => if blk < w.heap.size then ow blk else match ow' blk with | .stable => .stable | .tok _ _ => .stable | .part _ => .stable | .box _ => .box id | .junk => .junk
  let bx2 : Bx := ⟨fun b => if b = id then bx' 0 else bx b, bx.dead⟩
  have hback : ∀ blk n, Rigid (owCall [] ow) blk n → Rigid ow blk n := by
    intro blk n h
    cases hb : ow blk with
    | stable => exact rigid_stable hb
    | tok k fr => rcases rigid_cases h with h | ⟨_, _, h, _⟩ | ⟨fr', h, hn⟩ <;> simp [owCall, hb] at h; subst h; exact rigid_tok hb hn
    | part fr => rcases rigid_cases h with h | ⟨_, _, h, _⟩ | ⟨fr', h, hn⟩ <;> simp [owCall, hb] at h; subst h; exact rigid_part hb hn
    | junk => rcases rigid_cases h with h | ⟨_, _, h, _⟩ | ⟨fr', h, hn⟩ <;> simp [owCall, hb] at h
    | box b => rcases rigid_cases h with h | ⟨_, _, h, _⟩ | ⟨fr', h, hn⟩ <;> simp [owCall, hb, asgInv] at h
  have hst2 : ∀ blk n, Rigid ow' blk n → Rigid ow2 blk n := by
    intro blk n h
    by_cases hlt : blk < w.heap.size
    · exact rigid_eq (ow := ow) (hback blk n (rigid_eq h (hold blk hlt).2.symm)) (by simp only [ow2, if_pos hlt])
    · refine rigid_stable ?_
      simp only [ow2, if_neg hlt]
      rcases rigid_cases h with h | ⟨_, _, h, _⟩ | ⟨fr', h, hn⟩ <;> rw [h]
  have hnid : ∀ b, (bg b).isSome = true → b ≠ id := by
    rintro b hb rfl
    rw [hid] at hb
    cases hb
  have hkeep : Keeps ow bx w ow2 bx2 w' := by
    refine ⟨.of fun blk n h => ?_, fun blk k fr h _ => ?_, fun _ h => h, fun b h => ?_⟩
    · have hlt := hi.here blk (rigid_live h)
      exact ⟨rigid_eq h (by simp only [ow2, if_pos hlt]), (hold blk hlt).1⟩
    · have hlt := hi.here blk (by rw [h]; intro e; cases e)
      exact ⟨by simp only [ow2, if_pos hlt]; exact h, (hold blk hlt).1⟩
    · have hlt := hi.here (bx b) (by rw [h]; intro e; cases e)
      exact ⟨by simp only [bx2, if_neg (hnid b (hi.back _ b h).2.1)], by simp only [ow2, if_pos hlt]; exact h⟩
  have hnew : ow2 (bx' 0) = .box id := by
    simp only [ow2, if_neg (Nat.not_lt.2 hk0), g1]
  have hid2 : bx2 id = bx' 0 := by simp [bx2]
  refine ⟨v, ow2, bx2, rfl, hkeep, ren_rep hst2 (fun _ => ⟨hid2, hnew⟩) 20 _ v hv, ?_, rfl⟩
  have hup : ∀ b, b ≠ id → upd bg id (some (c.new1 y)) [] b = bg b := by
    intro b hb
    simp [upd, updN, hb]
  have hup0 : upd bg id (some (c.new1 y)) [] id = some (c.new1 y) := by simp [upd, updN]
  constructor
  · intro b cs hcs
    by_cases hb : b = id
    · subst hb
      rw [hup0] at hcs
      cases hcs
      rw [hid2]
      refine ⟨hnew, c0, T, g2, g3.1, fun i e u he hu => ?_⟩
      obtain ⟨r1, r2⟩ := g3.2 i e u he hu
      refine ⟨?_, r2⟩
      obtain ⟨t, z, rfl⟩ := fill_dat 200 c.new _ hdn (fun e he => unpack_dat _ _ _ e (fill_rest _ _ _ e he)) e (List.mem_of_getElem? he)
      cases r1 with
      | dat r1 => exact .dat (r1.keep (KeepSt.of fun blk n hs => ⟨hst2 blk n hs, rfl⟩))
    · rw [hup b hb] at hcs
      obtain ⟨q1, c1, T1, q2, q3⟩ := hi.box b cs hcs
      have hlt := hi.here (bx b) (by rw [q1]; intro e; cases e)
      have hb2 : bx2 b = bx b := by simp only [bx2, if_neg hb]
      rw [hb2]
      exact ⟨by simp only [ow2, if_pos hlt]; exact q1, c1, T1, by rw [(hold _ hlt).1]; exact q2, q3.keep hkeep⟩
  · intro blk b h
    simp only [ow2] at h
    split at h
    · obtain ⟨q1, q2, q3⟩ := hi.back blk b h
      have hb := hnid b q2
      exact ⟨by simp only [bx2, if_neg hb]; exact q1, by rw [hup b hb]; exact q2, q3⟩
    · split at h
      · cases h
      · cases h
      · cases h
      · rename_i b' hb'
        cases h
        obtain ⟨q1, _, q3⟩ := hinv'.back blk b' hb'
        have : b' = 0 := by omega
        subst this
        exact ⟨by rw [hid2]; exact q1, by rw [hup0]; rfl, hlt⟩
      · cases h
  · intro blk h
    simp only [ow2] at h
    split at h
    · rename_i hlt
      have := hinv'.size
      simp only at this
      omega
    · refine hinv'.here blk fun e => h ?_
      rw [e]
  · intro blk hlt' hnm
    obtain ⟨q1, q2, q3⟩ := hi.old blk hlt' hnm
    have hs := hi.size
    have hlt2 : blk < w.heap.size := by omega
    refine ⟨by rw [(hold blk hlt2).1]; exact q1, ?_, ?_⟩
    · simp only [ow2, if_pos hlt2]; exact q2
    · simp only [ow2, if_pos hlt2]; exact q3
  · have h1 := hi.size
    have h2 := hinv'.size
    simp only at h2
    omega
  · obtain ⟨e1, e2, e3⟩ := hinv'.env
    obtain ⟨e4, e5, e6⟩ := hi.env
    exact ⟨by rw [e1]; exact e4, by rw [e2]; exact e5, by rw [e3]; exact e6⟩
  · intro b hb
    obtain ⟨q1, q2⟩ := hi.kept b hb
    have hbn := hnid b q2
    exact ⟨by simp only [bx2, if_neg hbn]; exact q1, by rw [hup b hbn]; exact q2⟩
theorem newFind_spec {f : Nat} : ∀ (l : List NCon) (c : NCon), newFind f l = some c → c ∈ l ∧ c.f = f
  | [], c, h => by cases h
  | d :: r, c, h => by
    simp only [newFind] at h
    split at h
    · rename_i hk
      cases h
      exact ⟨by simp, Nat.eq_of_beq_eq_true hk⟩
    · obtain ⟨h1, h2⟩ := newFind_spec r c h
      exact ⟨by simp [h1], h2⟩
theorem enter_run {cf : Nat} {a : Act} {w : World} {k : Call} {f : Operand} {fs cs : Array Value} (hc : ∃ fn, P.funcs[cf]? = some fn ∧ fn.body.isSome = true ∧ (fn.name == "runtime.NumGoroutine") = false) (ho : o.op = .call k) (hk : k.callee = .value f) (hf : a.eval f = .func (.func cf) fs cs) :
    (execOp a.eval o).run P w = .ok (.enter cf (fs ++ k.args.map a.eval ++ cs)) w := by
  obtain ⟨fn, h1, h2, h3⟩ := hc
  unfold execOp
  rw [ho]
  have hb : ¬ fn.body = none := by intro e; rw [e] at h2; cases h2
  have h3' : ¬ fn.name = "runtime.NumGoroutine" := by simpa using h3
  simp [resolve, hk, hf, Deferred.ofValue, invoke, callFunc, h1, h3', hb]
theorem sound_call {k : Call} {f : Operand} (hΓ : CxOK P Γ) (ho : o.op = .call k) (hk : k.callee = .value f) (h : opE Γ id rd g A (.call k) q = some r) : Sound P id rd g A o q r := by
  simp only [opE, hk] at h
  split at h
  · rename_i fid fst caps he
    have hargs : ∀ {ow bx w} {a : Act}, Args ow bx w A a.eval o.op → ∃ fs cs, a.eval f = .func (.func fid) fs cs ∧ RepL ow bx w (fst ++ k.args.toList.map A ++ caps) (fs ++ k.args.map a.eval ++ cs) := by
        intro ow bx w a hA
        have hall := call_args ho hA
        have hfv := hall f (by simp [Call.operands, hk])
        rw [he] at hfv
        generalize hpe : a.eval f = u at hfv
        cases hfv with
        | clo h1 h2 h3 h4 =>
          rename_i fs cs
          refine ⟨fs, cs, rfl, by simp [h1, h2], fun i e v hi hv => ?_⟩
          rw [List.getElem?_append] at hi
          rw [Array.getElem?_append] at hv
          simp only [List.length_append, List.length_map, Array.length_toList, h1] at hi
          simp only [Array.size_append, Array.size_map] at hv
          split at hi
          · rename_i hlt
            rw [if_pos hlt] at hv
            rw [List.getElem?_append] at hi
            rw [Array.getElem?_append] at hv
            rw [h1] at hi
            split at hi
            · rename_i hlt2
              rw [if_pos hlt2] at hv
              exact h3 i e v hi hv
            · rename_i hlt2
              rw [if_neg hlt2] at hv
              simp only [List.getElem?_map, Array.getElem?_map, Option.map_eq_some_iff] at hi hv
              obtain ⟨x, hx, rfl⟩ := hi
              obtain ⟨y, hy, rfl⟩ := hv
              have : x = y := by have : k.args.toList[i - fs.size]? = some y := by simpa using hy
                                 rw [hx] at this; cases this; rfl
              subst this
              exact hall x (by simp only [Call.operands]; exact Array.mem_append.2 (.inr (Array.mem_of_getElem? hy)))
          · rename_i hlt
            rw [if_neg hlt] at hv
            exact h4 _ e v hi hv
    unfold callE at h
    split at h
    · rename_i c hcf
      obtain ⟨hmem, hcfid⟩ := conFind_spec _ _ hcf
      have hc := hΓ.cons c hmem
      subst hcfid
      unfold conE at h
      split at h
      · cases h
      · rename_i l a h1
        split at h
        · cases h
        · rename_i l' a' h2
          split at h
          · cases h
          · cases h
          · rename_i x hp h3
            have main : ∀ (y : c.outs.den) ws, c.F x = some y → refillB rd a' 0 c.boxes ((unpackL c.outs c.nout y).drop c.rs.length) = some ws → ∀ B ow bx nb bg w (act : Act), Inv B ow bx nb bg w → Args ow bx w A act.eval o.op →
                (∀ b ∈ a'.map (·.2), bg b = rd b) → Goes P B ow bx nb bg w act o id (resEV ((unpackL c.outs c.nout y).take c.rs.length)) none ws := by
              intro y ws h4 h5 B ow bx nb bg w act hi hA hrd
              obtain ⟨fs, cs, hf, hrl⟩ := hargs hA
              exact goes_call hc (enter_run hc.fn ho hk hf) (setEnv_call hc h1 h2 hp h3 h4 h5 id hi hrl hrd)
            cases g with
            | none =>
              simp only at h
              cases hF : c.F x with
              | none => rw [hF] at h; cases h
              | some y =>
                rw [hF] at h
                simp only [Option.bind_some] at h
                split at h
                · rename_i ws hws
                  refine ⟨_, _, _, _, h, fun h => (by cases h), fun z hz => ?_, fun _ B ow bx nb bg w act hi hA hb _ => main y ws hF hws B ow bx nb bg w act hi hA hb⟩
                  obtain ⟨j, hj⟩ := List.getElem?_of_mem hz
                  have : ∀ (bs : List (List PT)) (i : Nat) (new : List EV) (ws : List Wr), refillB rd a' i bs new = some ws → ∀ z ∈ ws, z.b ∈ a'.map (·.2) ∧ ∃ cs, rd z.b = some cs ∧ z.off + z.new.length ≤ cs.length := by
                    intro bs
                    induction bs with
                    | nil => intro i new ws h; simp only [refillB] at h; cases h; simp
                    | cons pts bs ih =>
                      intro i new ws h
                      simp only [refillB] at h
                      split at h
                      · rename_i b hb
                        split at h
                        · rename_i cs hcs
                          split at h
                          · rename_i out rest hr0
                            split at h
                            · rename_i hr
                              cases h
                              intro z hz
                              rcases List.mem_cons.1 hz with rfl | hz
                              · exact ⟨List.mem_map.2 ⟨_, asgGet_mem _ _ _ hb, rfl⟩, cs, hcs, by simp only [Nat.zero_add]; rw [refill_length _ _ _ _ _ hr0]; exact Nat.le_refl _⟩
                              · exact ih _ _ _ hr z hz
                            · cases h
                          · cases h
                        · cases h
                      · cases h
                  exact this _ _ _ _ hws z hz
                · cases h
            | some b =>
              simp only at h
              split at h
              · rename_i hbx
                cases hF : (bif b then c.F x else some c.outs.dflt) with
                | none => rw [hF] at h; cases h
                | some y =>
                  rw [hF] at h
                  simp only [Option.bind_some] at h
                  refine ⟨_, _, _, _, h, fun _ => ⟨rfl, rfl⟩, fun z hz => (by cases hz), fun hg B ow bx nb bg w act hi hA hb _ => ?_⟩
                  have hbt : b = true := by cases b with
                    | true => rfl
                    | false => exact absurd rfl hg
                  subst hbt
                  simp only [cond_true] at hF
                  refine main y [] hF (by rw [hbx]; rfl) B ow bx nb bg w act hi hA (fun b hb => ?_)
                  -- no boxes: no references
                  have hab : a' = [] := by
                    simp only [conPlain, Bool.and_eq_true] at hp
                    have hbel := hp.1.2
                    rw [hbx] at hbel
                    cases a' with
                    | nil => rfl
                    | cons p r => simp [asgBelow, Nat.ble] at hbel
                  rw [hab] at hb
                  simp at hb
              · cases h
    · split at h
      · rename_i c hcf
        obtain ⟨hmem, hcfid⟩ := newFind_spec _ _ hcf
        have hc := hΓ.news c hmem
        subst hcfid
        unfold newE at h
        split at h
        · cases h
        · split at h
          · rename_i l a hm
            split at h
            · rename_i x hp hx
              simp only [nconPlain, Bool.and_eq_true] at hp
              obtain ⟨⟨⟨hps, hdn⟩, hnin⟩, ha⟩ := hp
              have ha : a = [] := by cases a with | nil => rfl | cons p r => cases ha
              subst ha
              cases hF : c.F x with
              | none => rw [hF] at h; cases h
              | some y =>
                rw [hF] at h
                simp only [Option.bind_some] at h
                refine ⟨_, _, _, _, h, fun h => (by cases h), fun z hz => (by cases hz), fun _ B ow bx nb bg w act hi hA hb hn => ?_⟩
                obtain ⟨hn1, hn2⟩ := hn rfl
                obtain ⟨fs, cs, hf, hrl⟩ := hargs hA
                intro K Q hK
                unfold Oper.wp
                rw [enter_run hc.fn ho hk hf]
                exact (setEnv_new hc hm hps (Nat.eq_of_beq_eq_true hnin) hdn hx hF hi hrl hn1 hn2).mono fun e w' ⟨u, ow', bx', he, h1, h2, h3, h4⟩ => by subst he; exact hK u ow' bx' w' h1 h2 h3 h4
            · cases h
          · cases h
      · cases h
  · cases h
/-- Each operation does what the reading says. -/
theorem op_sound (hΓ : CxOK P Γ) (h : opE Γ id rd g A o.op q = some r) : Sound P id rd g A o q r := by
  cases ho : o.op <;> rw [ho] at h
  case move x => exact sound_move (.inl ho) h
  case assign x => exact sound_move (.inr ho) h
  case pick c a b =>
    simp only [opE] at h
    split at h
    · rename_i x hx; exact sound_pick ho h ⟨x, hx⟩
    · cases h
  case alloc t => exact sound_alloc hΓ ho h
  case box t x => exact sound_box ho h
  case build t ps => exact sound_build hΓ ho h
  case buildSlice t n ps => exact sound_buildSlice hΓ ho h
  case load t a => exact sound_load hΓ ho h
  case store t a x => exact sound_store hΓ ho h
  case nilCheck x => exact sound_nilCheck ho h
  case binOp op T x y yT => exact sound_bin hΓ ho h
  case unOp op T x => exact sound_un ho h
  case convert s d x => exact sound_convert hΓ ho h
  case makeFunc fn a b => exact sound_makeFunc ho h
  case slice t x lo hi mx => exact sound_slice hΓ ho h
  case fieldAddr t x i => exact sound_fieldAddr hΓ ho h
  case field t x i => exact sound_field hΓ ho h
  case indexAddr t x i => exact sound_indexAddr hΓ ho h
  case index t x i => exact sound_index hΓ ho h
  case extract x i => exact sound_extract ho h
  case call c =>
    cases hc : c.callee with
    | value f => exact sound_call hΓ ho hc h
    | invoke x m => simp only [opE, hc] at h; cases h
    | builtin b =>
      cases b
      case len => exact sound_len hΓ ho hc h
      case max => exact sound_minMax (mx := true) ho hc h
      case min => exact sound_minMax (mx := false) ho hc h
      all_goals (simp only [opE, hc] at h; cases h)
  all_goals (simp only [opE] at h; cases h)
end
end Go.Proofs.Ytbgdgpdfaebniaa
