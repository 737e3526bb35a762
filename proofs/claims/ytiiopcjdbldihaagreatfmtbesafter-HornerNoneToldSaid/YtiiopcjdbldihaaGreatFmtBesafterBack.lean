/- exact.Dy's Back at a number of one word 1, 2 or 3: bits at the end, shift, decimal text. Conditions: the environment's variables (io.EOF, the table of bits, leafSize). -/
import Derived.Test.YtiiopcjdbldihaaGreatFmtBesafterPoly
import Derived.Test.YtiiopcjdbldihaaGreatFmtBesafterFloat
import Derived.Laws.CopyOwn
import Derived.Deep.RegionWith
namespace Go.Proofs.YtiiopcjdbldihaaGreatFmtBesafter
open Go.RowKit

section
variable {P : Program} (w : World)
/-- 'copy' of one word into the head of a row. -/
theorem wpList_copy1 {ops : Array Oper} {rest : List Oper} {o : Oper} {a : Act} {Q : Exit → Act → World → Prop} (hgd : o.guard = none) (d s : Operand) (dT sT : TypeId)
    (ho : o.op = .call { callee := .builtin .copy, args := #[d, s], argTypes := #[dT, sT] }) (elem : TypeId) (hu : P.underlying dT = some (.slice elem)) (hsz : (P.info? elem).map (·.size) = some 1)
    (g dCap : Nat) (ad : Addr) (sCap : Nat) (hd : a.eval d = .slice (some ⟨g, 0, none⟩) 1 dCap) (hs : a.eval s = .slice (some ad) 1 sCap)
    (cur : Array Value) (t : TypeId) (hg : w.heap[g]? = some (.cells cur t (0, 0))) (u : Value) (hc : w.cell? ad = some u) (h1 : u.oneCell' = true) (hfit : 0 < cur.size)
    (h : ∀ w', w'.heap[g]? = some (.cells (cur.setIfInBounds 0 u) t (0, 0)) → w'.heap.size = w.heap.size → OnlyB g w w' → wpList P ops Q rest (a.put o.dst (goInt 1)) w') : wpList P ops Q (o :: rest) a w := by
  refine wpList_copy_own hgd d s dT sT ho elem hu hsz g 0 1 dCap ad 1 sCap hd hs cur t hg [u] rfl
    (by intro j v hj; match j, hj with | 0, hj => simp only [List.getElem?_cons_zero, Option.some.injEq] at hj; subst hj; simpa [Addr.add] using hc)
    (by simp; omega) (by intro v hv; rw [List.mem_singleton] at hv; rw [hv]; exact h1) ?_
  have hl : (cur.toList.take 0 ++ ([u] ++ cur.toList.drop (0 + [u].length))).toArray = cur.setIfInBounds 0 u := by
    apply Array.ext'
    rw [Array.toList_setIfInBounds, List.set_eq_take_append_cons_drop, if_pos (by simpa using hfit)]
    simp
  rw [hl]
  exact h _ (setRow_heap w g cur _ t _ hg) (by simp) ⟨rfl, rfl, rfl, by simp, fun k _ hk => setRow_other w g k _ hk⟩
end

/-- What the walk reads of package-level variables. -/
structure Env (p : Addr) (w : World) : Prop where
  eof : EofAt p w
  t0 : w.cell? ⟨4, 0, none⟩ = some (.int .u8 0)
  t1 : w.cell? ⟨4, 1, none⟩ = some (.int .u8 1)
  leaf : w.cell? ⟨5, 0, none⟩ = some (.int .i64 8)
def top : Nat := 100
theorem Env.below {p : Addr} {B : Nat} {w w' : World} (h : Env p w) (b : Below B w w') (hB : w.heap.size ≤ B) : Env p w' :=
  ⟨(b.cell (p := ⟨2, 0, none⟩) (Nat.lt_of_lt_of_le (lt_of_cell h.eof) hB)).trans h.eof,
   (b.cell (p := ⟨4, 0, none⟩) (Nat.lt_of_lt_of_le (lt_of_cell h.t0) hB)).trans h.t0,
   (b.cell (p := ⟨4, 1, none⟩) (Nat.lt_of_lt_of_le (lt_of_cell h.t1) hB)).trans h.t1,
   (b.cell (p := ⟨5, 0, none⟩) (Nat.lt_of_lt_of_le (lt_of_cell h.leaf) hB)).trans h.leaf⟩
theorem IntAt.below {k q : Nat} {d : Int} {B : Nat} {w w' : World} (h : IntAt k q d w) (b : Below B w w') (h1 : k < B) (h2 : q < B) : IntAt k q d w' := ⟨(b.block k h1).trans h.1, (b.block q h2).trans h.2⟩

set_option maxHeartbeats 400000 in
theorem Tzb_1 (k q : Nat) (p : Addr) (w : World) (g : Env p w) (h : IntAt k q 1 w) :
    Calls Tryz.prog 48 #[.pointer (some ⟨k, 0, none⟩)] w fun e' w' => e' = .returned (.int .u64 0) ∧ w = w' := by
  have c1 := cell_of_block (o := 1) h.1 rfl
  have c2 := cell_of_block (o := 0) h.2 rfl
  have t0 := g.t0
  have t1 := g.t1
  have eo : (IntKind.u64.wrap (bits BinOp.and IntKind.u64 1 (IntKind.u64.wrap (-1)) * 285870213051353865) / 288230376151711744).toNat = 0 := by decide +kernel
  go_enter Tryz.func48, Tryz.ntmps48
  go_wp2
  go_rounds 2
  go_wp2
  go_ret
  exact ⟨rfl, rfl⟩
set_option maxHeartbeats 400000 in
theorem Tzb_2 (k q : Nat) (p : Addr) (w : World) (g : Env p w) (h : IntAt k q 2 w) :
    Calls Tryz.prog 48 #[.pointer (some ⟨k, 0, none⟩)] w fun e' w' => e' = .returned (.int .u64 1) ∧ w = w' := by
  have c1 := cell_of_block (o := 1) h.1 rfl
  have c2 := cell_of_block (o := 0) h.2 rfl
  have t0 := g.t0
  have t1 := g.t1
  have eo : (IntKind.u64.wrap (bits BinOp.and IntKind.u64 2 (IntKind.u64.wrap (-2)) * 285870213051353865) / 288230376151711744).toNat = 1 := by decide +kernel
  go_enter Tryz.func48, Tryz.ntmps48
  go_wp2
  go_rounds 2
  go_wp2
  go_ret
  exact ⟨rfl, rfl⟩
set_option maxHeartbeats 400000 in
theorem Tzb_3 (k q : Nat) (p : Addr) (w : World) (g : Env p w) (h : IntAt k q 3 w) :
    Calls Tryz.prog 48 #[.pointer (some ⟨k, 0, none⟩)] w fun e' w' => e' = .returned (.int .u64 0) ∧ w = w' := by
  have c1 := cell_of_block (o := 1) h.1 rfl
  have c2 := cell_of_block (o := 0) h.2 rfl
  have t0 := g.t0
  have t1 := g.t1
  have eo : (IntKind.u64.wrap (bits BinOp.and IntKind.u64 3 (IntKind.u64.wrap (-3)) * 285870213051353865) / 288230376151711744).toNat = 0 := by decide +kernel
  go_enter Tryz.func48, Tryz.ntmps48
  go_wp2
  go_rounds 2
  go_wp2
  go_ret
  exact ⟨rfl, rfl⟩

set_option maxHeartbeats 400000 in
theorem same_nil (a : Addr) (w : World) :
    Calls Tryz.prog 84 #[.slice none 0 0, .slice (some a) 1 1] w fun e' w' => e' = .returned (.bool false) ∧ ∃ n, w' = w.drewN n := by
  go_enter Tryz.func84, Tryz.ntmps84
  go_wp2
  go_quiet (fail)
  go_wp2
  go_ret
  exact ⟨rfl, _, rfl⟩
set_option maxHeartbeats 400000 in
theorem alias_nil (a : Addr) (w : World) :
    Calls Tryz.prog 85 #[.slice none 0 0, .slice (some a) 1 1] w fun e' w' => e' = .returned (.bool false) ∧ ∃ n, w' = w.drewN n := by
  go_enter Tryz.func85, Tryz.ntmps85
  go_wp2
  go_quiet (fail)
  go_wp2
  go_ret
  exact ⟨rfl, _, rfl⟩
set_option maxHeartbeats 400000 in
theorem make_1 (w : World) :
    Calls Tryz.prog 79 #[.slice none 0 0, .int .i64 1] w fun e' w' => e' = .returned (.slice (some ⟨w.heap.size, 0, none⟩) 1 1) ∧ w' = w.alloc (.cells #[.int .u64 0] 103) := by
  have hmk := mk_1
  go_enter Tryz.func79, Tryz.ntmps79
  go_wp2
  go_ret
  exact ⟨rfl, rfl⟩
set_option maxHeartbeats 400000 in
theorem set_1 (q : Nat) (d : Int) (w : World) (h : w.heap[q]? = some (.cells #[.int .u64 d] 103 (0, 0))) :
    Calls Tryz.prog 78 #[.slice none 0 0, .slice (some ⟨q, 0, none⟩) 1 1] w fun e' w' => e' = .returned (.slice (some ⟨w.heap.size, 0, none⟩) 1 1) ∧ w'.heap.size = w.heap.size + 1 ∧ w'.heap[w.heap.size]? = some (.cells #[.int .u64 d] 103 (0, 0)) ∧ Below w.heap.size w w' := by
  have c2 := cell_of_block (o := 0) h rfl
  have hq : q < w.heap.size := lt_of_cell c2
  have c3 : (w.alloc (.cells #[.int .u64 0] 103)).cell? ⟨q, 0, none⟩ = some (.int .u64 d) := ((Below.refl w.heap.size w).alloc (Nat.le_refl _) _).cell (p := ⟨q, 0, none⟩) hq |>.trans c2
  go_enter Tryz.func78, Tryz.ntmps78
  go_wp2_with (fail)
  refine (make_1 _).mono ?_
  rintro e w' ⟨rfl, rfl⟩
  go_wp2_with (refine wpList_copy1 _ (o := ⟨some 11, _, _, _, _, _⟩) rfl _ _ 88 88 rfl 103 Tryz.underlying88 (by kernel_rfl) w.heap.size 1 ⟨q, 0, none⟩ 1 rfl rfl _ _ (heap_alloc_new w _ _ rfl) _ c3 rfl (by simp) ?_)
  intro w1 m1 z1 o1
  go_wp2
  go_ret
  exact ⟨rfl, by simpa using z1, m1, ((Below.refl w.heap.size w).alloc (Nat.le_refl _) _).trans (o1.below (Nat.le_refl _) (by go_size))⟩

set_option maxHeartbeats 400000 in
theorem norm_1 (q : Nat) (d : Int) (w : World) (h : w.heap[q]? = some (.cells #[.int .u64 d] 103 (0, 0))) (hd : (d == 0) = false) :
    Calls Tryz.prog 82 #[.slice (some ⟨q, 0, none⟩) 1 1] w fun e' w' => e' = .returned (.slice (some ⟨q, 0, none⟩) 1 1) ∧ w = w' := by
  have c2 := cell_of_block (o := 0) h rfl
  go_enter Tryz.func82, Tryz.ntmps82
  go_wp2
  go_rounds 2
  go_ret
  exact ⟨rfl, rfl⟩

theorem rshVU_g_2 (g q : Nat) (w : World) (hg : w.heap[g]? = some (.cells #[.int .u64 0] 103 (0, 0))) (h : w.heap[q]? = some (.cells #[.int .u64 2] 103 (0, 0))) :
    Calls Tryz.prog 54 #[.slice (some ⟨g, 0, none⟩) 1 1, .slice (some ⟨q, 0, none⟩) 1 1, .int .u64 1] w fun e' w' => e' = .returned (.int .u64 0) ∧ w' = w.setCell ⟨g, 0, none⟩ (.int .u64 1) := by
  have c1 := cell_of_block (o := 0) hg rfl
  have f1 := free_of_block (o := 0) hg
  have c2 := cell_of_block (o := 0) h rfl
  have e1 : bits BinOp.and IntKind.u64 1 63 = 1 := by decide +kernel
  have e2 : IntKind.u64.wrap 63 = 63 := by decide +kernel
  have e3 : bits BinOp.and IntKind.u64 63 63 = 63 := by decide +kernel
  go_enter Tryz.func54, Tryz.ntmps54
  go_wp2
  go_rounds 2
  go_ret
  exact ⟨rfl, rfl⟩

/-- math/big's assembly has Go's own loop for its twin. -/
theorem twin_rshVU (x y z : Value) (w : World) : (Extern.Twins.call "math/big.rshVU_g" #[87, 87, 85] #[103] #[x, y, z]).run Tryz.prog w = .ok (.enter 54 #[x, y, z]) w := by kernel_rfl

set_option maxHeartbeats 400000 in
theorem rsh_0 (q : Nat) (d : Int) (w : World) (h : w.heap[q]? = some (.cells #[.int .u64 d] 103 (0, 0))) :
    Calls Tryz.prog 66 #[.slice none 0 0, .slice (some ⟨q, 0, none⟩) 1 1, .int .u64 0] w fun e' w' => e' = .returned (.slice (some ⟨w.heap.size, 0, none⟩) 1 1) ∧ w'.heap.size = w.heap.size + 1 ∧ w'.heap[w.heap.size]? = some (.cells #[.int .u64 d] 103 (0, 0)) ∧ Below w.heap.size w w' := by
  go_enter Tryz.func66, Tryz.ntmps66
  go_wp2_with (fail)
  refine (same_nil _ _).mono ?_
  rintro e w1 ⟨rfl, n1, rfl⟩
  go_wp2_with (fail)
  refine (alias_nil _ _).mono ?_
  rintro e w1 ⟨rfl, n2, rfl⟩
  go_wp2_with (fail)
  refine (set_1 q d _ (by exact h)).mono ?_
  rintro e w2 ⟨rfl, z2, m2, b2⟩
  go_wp2
  go_ret
  exact ⟨rfl, z2, m2, ⟨b2.os, b2.tape, b2.output, b2.size, b2.block⟩⟩

set_option maxRecDepth 100000 in
set_option maxHeartbeats 400000 in
theorem rsh_2 (q : Nat) (w : World) (h : w.heap[q]? = some (.cells #[.int .u64 2] 103 (0, 0))) :
    Calls Tryz.prog 66 #[.slice none 0 0, .slice (some ⟨q, 0, none⟩) 1 1, .int .u64 1] w fun e' w' => e' = .returned (.slice (some ⟨w.heap.size, 0, none⟩) 1 1) ∧ w'.heap.size = w.heap.size + 1 ∧ w'.heap[w.heap.size]? = some (.cells #[.int .u64 1] 103 (0, 0)) ∧ Below w.heap.size w w' := by
  have htw := twin_rshVU
  go_enter Tryz.func66, Tryz.ntmps66
  go_wp2_with (fail)
  refine (make_1 _).mono ?_
  rintro e w1 ⟨rfl, rfl⟩
  go_wp2_with (fail)
  have hq : q < w.heap.size := lt_of_cell (cell_of_block (o := 0) h rfl)
  refine (rshVU_g_2 _ q _ (heap_alloc_new _ _ _ rfl) ((Below.heap_alloc w _ q hq).trans h)).mono ?_
  rintro e w2 ⟨rfl, rfl⟩
  go_wp2_with (fail)
  refine (norm_1 w.heap.size 1 _ ?_ rfl).mono ?_
  · exact heap_alloc_new _ _ _ rfl
  rintro e w2 ⟨rfl, rfl⟩
  go_wp2
  go_ret
  exact ⟨rfl, by simp, heap_alloc_new _ _ _ rfl, (Below.refl w.heap.size w).alloc (Nat.le_refl _) _⟩

set_option maxHeartbeats 400000 in
theorem Rsh_1 (z k q : Nat) (w : World) (hz : w.heap[z]? = some (.cells #[.bool false, .slice none 0 0] 90 (0, 0))) (h : IntAt k q 1 w) :
    Calls Tryz.prog 49 #[.pointer (some ⟨z, 0, none⟩), .pointer (some ⟨k, 0, none⟩), .int .u64 0] w fun e' w' => e' = .returned (.pointer (some ⟨z, 0, none⟩)) ∧ w'.heap.size = w.heap.size + 1 ∧ IntAt z w.heap.size 1 w' ∧ OnlyB z w w' := by
  have c0 := cell_of_block (o := 0) h.1 rfl
  have c1 := cell_of_block (o := 1) h.1 rfl
  have d0 := cell_of_block (o := 0) hz rfl
  have d1 := cell_of_block (o := 1) hz rfl
  have f0 := free_of_block (o := 0) hz
  have f1 := free_of_block (o := 1) hz
  go_enter Tryz.func49, Tryz.ntmps49
  go_wp2_with (fail)
  have hz1 : z < w.heap.size := lt_of_cell d0
  have hk1 : k < w.heap.size := lt_of_cell c0
  go_region_with (go_at_call 66; refine (rsh_0 q 1 w.drew (by exact h.2)).mono ?_; rintro e w1 ⟨rfl, z1, m1, b1⟩; have e1 := (b1.cell (p := ⟨z, 1, none⟩) hz1).trans d1; have e0 := (b1.cell (p := ⟨z, 0, none⟩) hz1).trans d0; have g1 := (b1.frozen (p := ⟨z, 1, none⟩) hz1).trans f1; have g0 := (b1.frozen (p := ⟨z, 0, none⟩) hz1).trans f0)
  all_goals
    go_wp2
    go_ret
    exact ⟨rfl, by simpa using z1, ⟨block_setCell (block_setCell ((b1.block z hz1).trans hz)), other_setCell (other_setCell m1 (Nat.ne_of_gt hz1)) (Nat.ne_of_gt hz1)⟩,
      ((OnlyB.mk (b := z) (w := w) b1.os b1.tape b1.output b1.size fun k hk _ => b1.block k hk).setCell 1 _).setCell 0 _⟩
set_option maxHeartbeats 400000 in
theorem Rsh_2 (z k q : Nat) (w : World) (hz : w.heap[z]? = some (.cells #[.bool false, .slice none 0 0] 90 (0, 0))) (h : IntAt k q 2 w) :
    Calls Tryz.prog 49 #[.pointer (some ⟨z, 0, none⟩), .pointer (some ⟨k, 0, none⟩), .int .u64 1] w fun e' w' => e' = .returned (.pointer (some ⟨z, 0, none⟩)) ∧ w'.heap.size = w.heap.size + 1 ∧ IntAt z w.heap.size 1 w' ∧ OnlyB z w w' := by
  have c0 := cell_of_block (o := 0) h.1 rfl
  have c1 := cell_of_block (o := 1) h.1 rfl
  have d0 := cell_of_block (o := 0) hz rfl
  have d1 := cell_of_block (o := 1) hz rfl
  have f0 := free_of_block (o := 0) hz
  have f1 := free_of_block (o := 1) hz
  go_enter Tryz.func49, Tryz.ntmps49
  go_wp2_with (fail)
  have hz1 : z < w.heap.size := lt_of_cell d0
  have hk1 : k < w.heap.size := lt_of_cell c0
  go_region_with (go_at_call 66; refine (rsh_2 q w.drew (by exact h.2)).mono ?_; rintro e w1 ⟨rfl, z1, m1, b1⟩; have e1 := (b1.cell (p := ⟨z, 1, none⟩) hz1).trans d1; have e0 := (b1.cell (p := ⟨z, 0, none⟩) hz1).trans d0; have g1 := (b1.frozen (p := ⟨z, 1, none⟩) hz1).trans f1; have g0 := (b1.frozen (p := ⟨z, 0, none⟩) hz1).trans f0)
  all_goals
    go_wp2
    go_ret
    exact ⟨rfl, by simpa using z1, ⟨block_setCell (block_setCell ((b1.block z hz1).trans hz)), other_setCell (other_setCell m1 (Nat.ne_of_gt hz1)) (Nat.ne_of_gt hz1)⟩,
      ((OnlyB.mk (b := z) (w := w) b1.os b1.tape b1.output b1.size fun k hk _ => b1.block k hk).setCell 1 _).setCell 0 _⟩
set_option maxHeartbeats 400000 in
theorem Rsh_3 (z k q : Nat) (w : World) (hz : w.heap[z]? = some (.cells #[.bool false, .slice none 0 0] 90 (0, 0))) (h : IntAt k q 3 w) :
    Calls Tryz.prog 49 #[.pointer (some ⟨z, 0, none⟩), .pointer (some ⟨k, 0, none⟩), .int .u64 0] w fun e' w' => e' = .returned (.pointer (some ⟨z, 0, none⟩)) ∧ w'.heap.size = w.heap.size + 1 ∧ IntAt z w.heap.size 3 w' ∧ OnlyB z w w' := by
  have c0 := cell_of_block (o := 0) h.1 rfl
  have c1 := cell_of_block (o := 1) h.1 rfl
  have d0 := cell_of_block (o := 0) hz rfl
  have d1 := cell_of_block (o := 1) hz rfl
  have f0 := free_of_block (o := 0) hz
  have f1 := free_of_block (o := 1) hz
  go_enter Tryz.func49, Tryz.ntmps49
  go_wp2_with (fail)
  have hz1 : z < w.heap.size := lt_of_cell d0
  have hk1 : k < w.heap.size := lt_of_cell c0
  go_region_with (go_at_call 66; refine (rsh_0 q 3 w.drew (by exact h.2)).mono ?_; rintro e w1 ⟨rfl, z1, m1, b1⟩; have e1 := (b1.cell (p := ⟨z, 1, none⟩) hz1).trans d1; have e0 := (b1.cell (p := ⟨z, 0, none⟩) hz1).trans d0; have g1 := (b1.frozen (p := ⟨z, 1, none⟩) hz1).trans f1; have g0 := (b1.frozen (p := ⟨z, 0, none⟩) hz1).trans f0)
  all_goals
    go_wp2
    go_ret
    exact ⟨rfl, by simpa using z1, ⟨block_setCell (block_setCell ((b1.block z hz1).trans hz)), other_setCell (other_setCell m1 (Nat.ne_of_gt hz1)) (Nat.ne_of_gt hz1)⟩,
      ((OnlyB.mk (b := z) (w := w) b1.os b1.tape b1.output b1.size fun k hk _ => b1.block k hk).setCell 1 _).setCell 0 _⟩
end Go.Proofs.YtiiopcjdbldihaaGreatFmtBesafter
