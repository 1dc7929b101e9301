/- Each operation does what the reading says: variables, addresses, parts. No program in sight. -/
import Derived.Test.YtbgdgpdfaebniaaEngG
set_option linter.unusedSimpArgs false
set_option linter.unusedVariables false
namespace Go.Proofs.Ytbgdgpdfaebniaa
section
variable {ρ : Type} {P : Program} {Γ : Cx} {id : Nat} {rd : Nat → Option (List EV)} {g : Option Bool} {A : Operand → EV} {o : Oper} {q : EV → Option (List EV) → List Wr → List Nat → Option ρ} {r : ρ}
theorem goes_new {B : Base} {ow : Nat → Owner} {bx : Bx} {nb : Nat} {bg : Nat → Option (List EV)} {w : World} {a : Act} {cs : List EV} {c : Array Value} {T : TypeId} (hi : Inv B ow bx nb bg w)
    (h : (execOp a.eval o).run P w = .ok (.value (.pointer (some ⟨w.heap.size, 0, none⟩))) { w with heap := w.heap.push (.cells c T) }) (hc : RepCs ow bx w cs c.toList) (hb : bg id = none) (hlt : id < nb) :
    Goes P B ow bx nb bg w a o id (.ptr id 0) (some cs) [] := by
  intro K Q hK
  unfold Oper.wp
  rw [h]
  obtain ⟨h1, h2⟩ := hi.push T hb hlt hc
  refine hK _ _ _ _ h1 ?_ h2 rfl
  have hp := RepEV.ptr (ow := fun blk => if blk = w.heap.size then Owner.box id else ow blk) (bx := ⟨fun b' => if b' = id then w.heap.size else bx b', bx.dead⟩) (w := { w with heap := w.heap.push (.cells c T) }) (b := id) (off := 0) (by simp)
  simp only [if_true] at hp
  exact hp
theorem sound_alloc {T : TypeId} (hΓ : CxOK P Γ) (ho : o.op = .alloc T)
    (h : noGuard g (match Γ.td T with | some d => q (.ptr id 0) (some d.zero) [] [] | none => none) = some r) : Sound P id rd g A o q r := by
  obtain ⟨rfl, h⟩ := noGuard_spec h
  split at h
  · rename_i d hd
    refine ⟨_, _, _, _, h, fun h => (by cases h), fun x hx => (by cases hx), fun _ B ow bx nb bg w a hi hA hb hn => ?_⟩
    obtain ⟨hn1, hn2⟩ := hn rfl
    obtain ⟨i, z, h1, h2, h3, h4, h5⟩ := (hΓ.td T d hd).zero
    refine goes_new hi (c := z.cells) (T := T) ?_ (h5 ow bx w) hn1 hn2
    unfold execOp
    rw [ho]
    simp [Instr.alloc, zeroValue, typeInfo, h1, h2, newVar, newRow]
  · cases h
theorem sound_box {T : TypeId} {x : Operand} (ho : o.op = .box T x)
    (h : noGuard g (match Γ.td T with
      | some d => match (A x).cells with
        | some cs => match Nat.beq cs.length d.zero.length with
          | true => q (.ptr id 0) (some cs) [] []
          | false => none
        | none => none
      | none => none) = some r) : Sound P id rd g A o q r := by
  obtain ⟨rfl, h⟩ := noGuard_spec h
  split at h
  · rename_i d hd
    split at h
    · rename_i cs hcs
      split at h
      · refine ⟨_, _, _, _, h, fun h => (by cases h), fun x hx => (by cases hx), fun _ B ow bx nb bg w a hi hA hb hn => ?_⟩
        obtain ⟨hn1, hn2⟩ := hn rfl
        rw [ho] at hA
        have hv := args_of hA (by intros; simp) x (by simp [Op.operands])
        refine goes_new hi (c := (a.eval x).cells) (T := T) ?_ (cells_rep hcs hv) hn1 hn2
        unfold execOp
        rw [ho]
        simp [Instr.box, newVar, newRow]
      · cases h
    · cases h
  · cases h
theorem sames_spec {ty : Ty} {d : TD} {cs : List EV} {s : Nat} : ∀ (n off : Nat) (l : List ty.den), sames ty d cs off s n = some l →
    l.length = n ∧ ∀ (j : Nat) (hj : j < l.length), ∃ e, readAt d cs (off + j * s) = some e ∧ e.to ty = some (l[j]'hj) := by
  intro n
  induction n with
  | zero => intro off l h; cases h; exact ⟨rfl, fun j hj => absurd hj (by simp)⟩
  | succ n ih =>
    intro off l h
    simp only [sames] at h
    split at h
    · rename_i e he
      split at h
      · rename_i v hv
        split at h
        · rename_i l' hl'
          cases h
          obtain ⟨h1, h2⟩ := ih _ _ hl'
          refine ⟨by simp [h1], fun j hj => ?_⟩
          cases j with
          | zero => exact ⟨e, by simpa using he, hv⟩
          | succ j =>
            obtain ⟨e', g1, g2⟩ := h2 j (by simpa using hj)
            exact ⟨e', by rw [← g1]; congr 1; rw [Nat.succ_mul]; omega, g2⟩
        · cases h
      · cases h
    · cases h
theorem load_run {T : TypeId} {x : Operand} {a : Act} {w : World} {ad : Addr} {v : Value} (ho : o.op = .load T x) (hx : a.eval x = .pointer (some ad)) (h : (loadVar T ad).run P w = .ok v w) :
    (execOp a.eval o).run P w = .ok (.value v) w := by
  unfold execOp
  rw [ho]
  simp [hx, Instr.loadAt, Instr.sureAddr, h]
theorem toList_get {c : Array Value} {i : Nat} {v : Value} (h : c.toList[i]? = some v) : c[i]? = some v := by simpa using h
theorem sound_load {T : TypeId} {x : Operand} (hΓ : CxOK P Γ) (ho : o.op = .load T x) (h : opE Γ id rd g A (.load T x) q = some r) : Sound P id rd g A o q r := by
  have hx : ∀ {ow bx w ev}, Args ow bx w A ev o.op → RepEV ow bx w (A x) (ev x) := by
    intro ow bx w ev hA
    rw [ho] at hA
    exact args_of hA (by intros; simp) x (by simp [Op.operands])
  simp only [opE] at h
  split at h
  · rename_i d hd
    have hOK := hΓ.td T d hd
    split at h
    · rename_i b off he
      split at h
      · rename_i cs hcs
        split at h
        · rename_i v hv
          refine sound_pure h fun _ B ow bx nb bg w a hi hA hb => ?_
          have hp := hx hA
          rw [he] at hp
          obtain ⟨w1, c, U, hc, hr⟩ := hi.box b cs (by rw [hb b (by simp)]; exact hcs)
          obtain ⟨u, h1, h2, _⟩ := read_run (P := P) hOK (base := 0) hv hc (vs := c.toList) (fun i v h => by rw [Nat.zero_add]; exact toList_get h) hr
          rw [Nat.zero_add] at h1
          cases hpe : a.eval x with
          | pointer ad =>
            rw [hpe] at hp
            cases hp with
            | ptr hq => exact ⟨u, load_run ho hpe h1, h2⟩
          | _ => rw [hpe] at hp; cases hp
        · cases h
      · cases h
    · rename_i b off s n i o' he
      split at h
      · rename_i cs hcs
        split at h
        · rename_i ty hty
          split at h
          · rename_i l hl
            refine sound_pure h fun _ B ow bx nb bg w a hi hA hb => ?_
            have hp := hx hA
            rw [he] at hp
            obtain ⟨w1, c, U, hc, hr⟩ := hi.box b cs (by rw [hb b (by simp)]; exact hcs)
            obtain ⟨hln, hall⟩ := sames_spec _ _ _ hl
            cases hpe : a.eval x with
            | pointer ad =>
              rw [hpe] at hp
              cases hp with
              | pix hq h0 h1 =>
                have hlt : i.toNat < l.length := by omega
                obtain ⟨e, g1, g2⟩ := hall i.toNat hlt
                obtain ⟨u, h1, h2, _⟩ := read_run (P := P) hOK (base := 0) g1 hc (vs := c.toList) (fun i v h => by rw [Nat.zero_add]; exact toList_get h) hr
                refine ⟨u, load_run ho hpe ?_, .dat ?_⟩
                · rw [← h1]; congr 2; (try simp); (try omega)
                · have : l.getD i.toNat ty.dflt = l[i.toNat]'hlt := by simp [List.getD, hlt]
                  rw [this]
                  exact to_rep g2 h2
            | _ => rw [hpe] at hp; cases hp
          · cases h
        · cases h
      · cases h
    · rename_i ty l i o' he
      split at h
      · rename_i v hv
        have main : ∀ {ow bx w} {a : Act}, RepEV ow bx w (.elt ty l i o') (a.eval x) → ∃ u, (execOp a.eval o).run P w = .ok (.value u) w ∧ RepEV ow bx w v u ∧
            ∃ blk off c U fz, a.eval x = .pointer (some ⟨blk, off + i.toNat * ty.size + o', none⟩) ∧ w.heap[blk]? = some (.cells c U fz) ∧ 
              Rep ow w ty (l.getD i.toNat ty.dflt) ((c.toList.drop (off + i.toNat * ty.size)).take ty.size) := by
          intro ow bx w a hp
          cases hpe : a.eval x with
          | pointer ad =>
            rw [hpe] at hp
            cases hp with
            | elt h0 h1 hs hbk hc =>
              rename_i blk off c U fz
              have hlt : i.toNat < l.length := by omega
              have hgx : l.getD i.toNat ty.dflt = l[i.toNat]'hlt := by simp [List.getD, hlt]
              have hrep := hc i.toNat _ (List.getElem?_eq_getElem hlt)
              rw [← hgx] at hrep
              obtain ⟨u, g1, g2, _⟩ := read_run (P := P) hOK (base := off + i.toNat * ty.size) hv hbk (vs := (c.toList.drop (off + i.toNat * ty.size)).take ty.size) (fun j v hj => by
                rw [List.getElem?_take] at hj
                split at hj
                · rw [List.getElem?_drop] at hj; exact toList_get hj
                · cases hj) (rep_flat _ _ _ hrep)
              exact ⟨u, load_run ho hpe g1, g2, blk, off, c, U, fz, rfl, hbk, hrep⟩
          | _ => rw [hpe] at hp; cases hp
        have usual : q v none [] [] = some r → Sound P id rd g A o q r := fun h => sound_pure h fun _ B ow bx nb bg w a hi hA hb => by
          have hp := hx hA
          rw [he] at hp
          obtain ⟨u, h1, h2, _⟩ := main hp
          exact ⟨u, h1, h2⟩
        split at h
        · rename_i t' ho' ht'
          split at h
          · rename_i hteq
            subst hteq
            refine sound_pure h fun _ B ow bx nb bg w a hi hA hb => ?_
            have hp := hx hA
            rw [he] at hp
            obtain ⟨u, h1, h2, blk, off, c, U, fz, h3, h4, h5⟩ := main hp
            refine ⟨u, h1, ?_⟩
            have hz : o' = 0 := Nat.eq_of_beq_eq_true ho'
            subst hz
            obtain ⟨z1, z2⟩ := hOK.agg _ ht'
            -- the whole element
            have hlen := rep_length _ _ _ h5
            by_cases hag : aggD d = true
            · have hcs := rep_flat (bx := bx) _ _ _ h5
              have hld := load_cells_list (P := P) (w := w) (o := off + i.toNat * ty.size) (n := ty.size) (vs := (c.toList.drop (off + i.toNat * ty.size)).take ty.size) h4 (fun j v hj => by
                rw [List.getElem?_take] at hj
                split at hj
                · rw [List.getElem?_drop] at hj; exact toList_get hj
                · cases hj) hlen.symm
              have hlv : (loadVar T ⟨blk, off + i.toNat * ty.size, none⟩).run P w = .ok (.agg ((c.toList.drop (off + i.toNat * ty.size)).take ty.size).toArray) w := by
                unfold loadVar
                rw [Sem.run_bind, hOK.isAgg, hag]
                simp only [Result.andThen_ok, if_true, Sem.run_bind, hOK.sizeOf, ← z1, hld, Sem.run_pure]
              have := load_run (o := o) ho h3 hlv
              rw [h1] at this
              cases this
              have hta : ty.isAgg = true := z2.2 hag
              refine .dat ?_
              cases ty <;> simp only [Ty.isAgg] at hta <;> try cases hta
              all_goals exact ⟨_, rfl, by simpa [Rep] using h5⟩
            · have hna : ty.isAgg = false := by
                cases hta : ty.isAgg with
                | false => rfl
                | true => exact absurd (z2.1 hta) hag
              have h1' : ty.size = 1 := by
                rw [z1]
                have hh := hOK.how
                unfold aggD at hag
                cases hw : d.how with
                | scalar => simp only [hw] at hh; exact hh.1
                | slice e s b => simp only [hw] at hh; exact hh.1
                | struct fs => simp [hw] at hag
                | array n e s => simp [hw] at hag
              have hll : ((c.toList.drop (off + i.toNat * ty.size)).take ty.size).length = 1 := by rw [hlen, h1']
              obtain ⟨u0, hu0⟩ := List.length_eq_one_iff.1 hll
              rw [hu0] at h5
              have hcell : c[off + i.toNat * ty.size]? = some u0 := by
                have : ((c.toList.drop (off + i.toNat * ty.size)).take ty.size)[0]? = some u0 := by rw [hu0]; rfl
                rw [List.getElem?_take] at this
                split at this
                · rw [List.getElem?_drop] at this; exact toList_get this
                · cases this
              have hlv : (loadVar T ⟨blk, off + i.toNat * ty.size, none⟩).run P w = .ok u0 w := by
                unfold loadVar
                rw [Sem.run_bind, hOK.isAgg, show aggD d = false by simpa using hag]
                simp [cell_at h4, hcell]
              have := load_run (o := o) ho h3 hlv
              rw [h1] at this
              cases this
              refine .dat ?_
              cases ty <;> simp only [Ty.isAgg] at hna <;> first | exact h5 | cases hna
          · exact usual h
        · exact usual h
      · cases h
    · rename_i e he
      split at h
      · rename_i v hv
        refine sound_pure h fun _ B ow bx nb bg w a hi hA hb => ?_
        have hp := hx hA
        rw [he] at hp
        cases hpe : a.eval x with
        | pointer ad =>
          rw [hpe] at hp
          cases hp with
          | cp hs hbk hcv h1 hq =>
            rename_i blk off c U fz u0
            obtain ⟨u, g1, g2, _⟩ := read_run (P := P) hOK (base := off) hv hbk (vs := [u0]) (fun i v h => by
              cases i with
              | zero => simp at h; subst h; exact hcv
              | succ i => simp at h) (RepCs.one hq h1)
            rw [Nat.add_zero] at g1
            exact ⟨u, load_run ho hpe g1, g2⟩
        | _ => rw [hpe] at hp; cases hp
      · cases h
    · cases h
  · cases h
end
end Go.Proofs.Ytbgdgpdfaebniaa
