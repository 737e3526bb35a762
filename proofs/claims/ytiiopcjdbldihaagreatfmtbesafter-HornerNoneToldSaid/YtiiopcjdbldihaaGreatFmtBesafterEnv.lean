/- From a card's listed variables to what the walk reads of them. Condition: the listed variables read as told. -/
import Derived.Test.YtiiopcjdbldihaaGreatFmtBesafterBack
import Derived.Test.YtiiopcjdbldihaaGreatFmtBesafterRows
import Derived.Stop.LaidErr
import Derived.Lib.LaidTab
import Derived.MakeChecks
import Derived.ProofKit
namespace Go.Proofs.YtiiopcjdbldihaaGreatFmtBesafter
open Go.RowKit

theorem laidMet_at {P : Program} {x : String × DataW Unit} {w : World} : ∀ {l : List (String × DataW Unit)}, laidMet P l w → x ∈ l → ∃ r, laidMet P (x :: r) w
  | y :: r, h, hm => by
    rcases List.mem_cons.1 hm with rfl | hm
    · exact ⟨r, h⟩
    · exact laidMet_at h.tail hm
/-- an integer that is listed -/
theorem laid_int {P : Program} {n : String} {k : IntKind} {z : Int} {r : List (String × DataW Unit)} {W : World} {g : Nat} {t : TypeId}
    (h : laidMet P ((n, .lit (.int k z)) :: r) W) (hg : P.globalNamed n = some g) (ht : (P.globals[g]?).map (·.type) = some t) (hi : P.underlying t = some (.int k)) : W.cell? ⟨g, 0, none⟩ = some (.int k z) := by
  obtain ⟨ps, ⟨g0, t0, cs0, f0, p0, q0, hg0, ht0, hv0, hd0, _, _⟩, _⟩ := h
  obtain rfl := Option.some.inj (hg.symm.trans hg0)
  obtain rfl := Option.some.inj (ht.symm.trans ht0)
  obtain ⟨m, e1, e2, _⟩ := DataW.trod_int hi hd0
  have e3 : z = m := by
    have := congrArg Prod.fst e2
    simpa using this
  subst e3
  rw [World.var?_cell hg hv0 0]
  have : cs0.toList[0]? = some (.int k z) := by rw [e1]; rfl
  simpa using this
theorem row_eof : ∀ u, Tryz.prog.typeName? 3 u = some "*errors.errorString" → u = 363 := by
  exact typeName_ptr_named (nm := "errors.errorString") (by kernel_rfl) (by kernel_rfl) (by decide)

theorem env_of_laid {l : List (String × DataW Unit)} {W : World} (h : laidMetH Tryz.prog l W) (hn : (l.all fun x => x.2.handleName?.isNone) = true)
    (m1 : ("io.EOF", Rows.laid_io_EOF) ∈ l) (m2 : ("math/bits.deBruijn64tab", Rows.laid_math_bits_deBruijn64tab) ∈ l) (m3 : ("math/big.leafSize", Rows.laid_math_big_leafSize) ∈ l) : ∃ p, Env p W := by
  rw [MakeChecks.laidMetH_plain _ _ _ hn] at h
  obtain ⟨r1, h1⟩ := laidMet_at h m1
  obtain ⟨r2, h2⟩ := laidMet_at h m2
  obtain ⟨r3, h3⟩ := laidMet_at h m3
  have g1 : Tryz.prog.globalNamed "io.EOF" = some 2 := by kernel_rfl
  obtain ⟨a, s, hv, _⟩ := laid_sentinel (g := 2) (ti := 143) (tp := 363) (te := 382) (ts := 9) h1 g1 (by kernel_rfl) Tryz.underlying143 row_eof Tryz.underlying363 Tryz.underlying382 rfl rfl Tryz.underlying9 (by kernel_rfl) (by kernel_rfl)
  have T := Lib.tabIs_of_head (g := 4) (k := .u8) (t := 170) (e := 5) (n := 64) (zs := [0, 1, 56, 2, 57, 49, 28, 3, 61, 58, 42, 50, 38, 29, 17, 4, 62, 47, 59, 36, 45, 43, 51, 22, 53, 39, 33, 30, 24, 18, 12, 5, 63, 55, 48, 27, 60, 41, 37, 16, 46, 35, 44, 21, 52, 32, 23, 11, 54, 26, 40, 15, 34, 20, 31, 10, 25, 14, 19, 9, 13, 8, 7, 6]) (by kernel_rfl) (by kernel_rfl) (by kernel_rfl) Tryz.underlying5 (by kernel_rfl) (by kernel_rfl) h2
  have t0 := T.cell (g := 4) (by kernel_rfl) 0 (by decide)
  have t1 := T.cell (g := 4) (by kernel_rfl) 1 (by decide)
  have lf := laid_int (g := 5) (t := 3) h3 (by kernel_rfl) (by kernel_rfl) Tryz.underlying3
  exact ⟨a, by have := World.var?_cell g1 hv 0; simpa [EofAt] using this, t0, t1, lf⟩
end Go.Proofs.YtiiopcjdbldihaaGreatFmtBesafter
