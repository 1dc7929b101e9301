/- The listed variable of the packets: what it holds when a call begins. -/
import Derived.Test.YtomkodhihiloiaaDoorEngLink
import Derived.Test.YtomkodhihiloiaaDoorRows
import Derived.ProofKit
import Derived.LaidMore
import Derived.OpenShut
import Derived.Stop.Joined
set_option linter.unusedSimpArgs false
set_option linter.unusedVariables false
namespace Go.Proofs.YtomkodhihiloiaaDoor
open Go.ChangeShapes Go.WideShapes Go.ChangeAt Go.RowKit
def laidW : List (String × DataW Unit) := [("odograph/packet.widths", Rows.laid_odograph_packet_widths)]
theorem gW : Tryd.prog.globalNamed "odograph/packet.widths" = some 0 := by kernel_rfl
theorem tW : (Tryd.prog.globals[0]?).map (·.type) = some 57 := by kernel_rfl
/-- The door's own heap meets the condition. -/
theorem door_met (os : Os) (args : Array Value) : laidMetH Tryd.prog laidW ((World.doorLaid Tryd.prog 400 os).forCall (fun _ _ => 0) ⟨#[], args, []⟩).memory :=
  laidMetH_of_parts3 (fuel := 8) (laidMet_of_run' 8 (by kernel_rfl) (by kernel_rfl)) (by kernel_rfl) (by kernel_rfl)
theorem cells_laid {W : World} (h : laidMetH Tryd.prog laidW W) : ∀ i, i < 8 → W.cell? ⟨0, i, none⟩ = [Value.int .i64 16, .int .i64 3, .int .i64 16, .int .i64 36, .int .i64 36, .int .i64 36, .int .i64 20, .int .i64 20][i]? := by
  have h : laidMet Tryd.prog laidW W := h
  obtain ⟨ps, ⟨g0, t0, cs0, f0, p0, q0, hg0, ht0, hv0, hd0, _, _⟩, _, _⟩ := h
  obtain rfl := Option.some.inj (gW.symm.trans hg0)
  obtain rfl := Option.some.inj (tW.symm.trans ht0)
  obtain ⟨xs, m1, rfl, hx1, hlen, hn8, hel⟩ := DataW.trod_array Tryd.underlying57 hd0
  have c3 : Tryd.prog.cellsOf 3 = 1 := by kernel_rfl
  have cW : Tryd.prog.cellsOf 57 = 8 := by kernel_rfl
  rw [cW] at hlen
  obtain ⟨y0, y1, y2, y3, y4, y5, y6, y7, rfl⟩ := list_len8 hn8
  obtain ⟨l⟩ := cs0
  have hlen : l.length = 8 := hlen
  obtain ⟨v0, v1, v2, v3, v4, v5, v6, v7, rfl⟩ := list_len8 hlen
  rw [c3] at hel
  have e0 := hel 0 (by decide)
  have e1 := hel 1 (by decide)
  have e2 := hel 2 (by decide)
  have e3 := hel 3 (by decide)
  have e4 := hel 4 (by decide)
  have e5 := hel 5 (by decide)
  have e6 := hel 6 (by decide)
  have e7 := hel 7 (by decide)
  simp only [Rows.laid_odograph_packet_widths, List.map_cons, List.map_nil, Prod.mk.injEq, DataW.agg.injEq, List.cons.injEq, and_true] at hx1
  obtain ⟨⟨x0, x1, x2, x3, x4, x5, x6, x7⟩, _⟩ := hx1
  have one : ∀ {v : Value} {y : DataW Unit × List MemPlace} {k : Int}, DataW.trod (fun _ => ()) Tryd.prog W 0 (fun _ => true) false m1 3 [v] = some y → DataW.lit (.int .i64 k) = y.1 → v = .int .i64 k := by
    intro v y k h1 h2
    obtain ⟨n, g1, g2, _⟩ := DataW.trod_int Tryd.underlying3 h1
    subst g2
    simp only [DataW.lit.injEq, Lit.int.injEq, true_and] at h2
    subst h2
    simpa using g1
  have z0 := one (show _ = some y0 from e0) x0
  have z1 := one (show _ = some y1 from e1) x1
  have z2 := one (show _ = some y2 from e2) x2
  have z3 := one (show _ = some y3 from e3) x3
  have z4 := one (show _ = some y4 from e4) x4
  have z5 := one (show _ = some y5 from e5) x5
  have z6 := one (show _ = some y6 from e6) x6
  have z7 := one (show _ = some y7 from e7) x7
  subst z0 z1 z2 z3 z4 z5 z6 z7
  intro i hi
  rw [World.var?_cell hg0 hv0 i]
  simp
theorem glob_laid {W : World} (h : laidMetH Tryd.prog laidW W) : GlobOK (owAll W) W := by
  have hc := cells_laid h
  intro g d hd
  obtain ⟨_, c, T, fz, hb, _⟩ := cell_block (hc 0 (by decide))
  have hb : W.heap[0]? = some (.cells c T fz) := hb
  have hget : ∀ i, i < 8 → c[i]? = [Value.int .i64 16, .int .i64 3, .int .i64 16, .int .i64 36, .int .i64 36, .int .i64 36, .int .i64 20, .int .i64 20][i]? := by
    intro i hi
    rw [← hc i hi, cell_at hb]
  have htake : c.toList.take 8 = [Value.int .i64 16, .int .i64 3, .int .i64 16, .int .i64 36, .int .i64 36, .int .i64 36, .int .i64 20, .int .i64 20] := by
    apply List.ext_getElem?
    intro i
    rw [List.getElem?_take]
    split
    · rename_i hi
      rw [← hget i hi]
      simp
    · rename_i hi
      rw [List.getElem?_eq_none (by simp; omega)]
  have hsz : 0 < W.heap.size := (Array.getElem?_eq_some_iff.1 hb).1
  unfold globs globGet at hd
  cases hg : Nat.beq 0 g with
  | false => rw [hg] at hd; simp [globGet] at hd
  | true =>
    rw [hg] at hd
    have hg0 := Nat.eq_of_beq_eq_true hg
    subst hg0
    simp only [Option.some.injEq] at hd
    subst hd
    refine ⟨rigid_stable (by unfold owAll; rw [if_pos hsz]), c, T, fz, hb, ?_⟩
    show Rep _ _ _ _ (c.toList.take 8)
    rw [htake]
    exact ⟨[_], _, rfl, ⟨rfl, rfl⟩, [_], _, rfl, ⟨rfl, rfl⟩, [_], _, rfl, ⟨rfl, rfl⟩, [_], _, rfl, ⟨rfl, rfl⟩, [_], _, rfl, ⟨rfl, rfl⟩, [_], _, rfl, ⟨rfl, rfl⟩, [_], _, rfl, ⟨rfl, rfl⟩, rfl, rfl⟩
end Go.Proofs.YtomkodhihiloiaaDoor
