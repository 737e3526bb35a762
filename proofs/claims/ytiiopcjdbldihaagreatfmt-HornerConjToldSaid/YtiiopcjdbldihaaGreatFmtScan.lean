/- Contracts of what math/big's SetString calls, at a text of one digit 1, 2 or 3: reading bytes, the powers of 10, the first word. No condition on the world but that the reader's cells are the call's. -/
import Derived.Test.YtiiopcjdbldihaaGreatFmtProg
import Derived.WalkKit
import Derived.WalkSpells
import Derived.WalkLawsBesides
import Derived.Handy
import Derived.Deep.QuietTactic
import Derived.BigQuiet
namespace Go.Proofs.YtiiopcjdbldihaaGreatFmt
open Go.RowKit

/-- Of what was there only block b may have turned. -/
structure OnlyB (b : Nat) (w w' : World) : Prop where
  os : w'.os = w.os
  tape : w'.tape = w.tape
  output : w'.output = w.output
  size : w.heap.size ≤ w'.heap.size
  block : ∀ k, k < w.heap.size → k ≠ b → w'.heap[k]? = w.heap[k]?
theorem OnlyB.refl (b : Nat) (w : World) : OnlyB b w w := ⟨rfl, rfl, rfl, Nat.le_refl _, fun _ _ _ => rfl⟩
theorem OnlyB.trans {b : Nat} {u v w : World} (h : OnlyB b u v) (k : OnlyB b v w) : OnlyB b u w :=
  ⟨k.os.trans h.os, k.tape.trans h.tape, k.output.trans h.output, Nat.le_trans h.size k.size, fun i hi hb => (k.block i (Nat.lt_of_lt_of_le hi h.size) hb).trans (h.block i hi hb)⟩
theorem OnlyB.drewN {b : Nat} {v w : World} (h : OnlyB b v w) (n : Nat) : OnlyB b v (w.drewN n) := ⟨h.os, h.tape, h.output, h.size, h.block⟩
theorem OnlyB.setCell {b : Nat} {v w : World} (h : OnlyB b v w) (o : Nat) (u : Value) : OnlyB b v (w.setCell ⟨b, o, none⟩ u) :=
  h.trans ⟨rfl, rfl, rfl, by simp [World.setCell], fun k _ hk => Below.heap_setCell w ⟨b, o, none⟩ u k hk⟩
theorem OnlyB.alloc {b : Nat} {v w : World} (h : OnlyB b v w) (o : Obj) : OnlyB b v (w.alloc o) :=
  h.trans ⟨rfl, rfl, rfl, by simp, fun k hk _ => Below.heap_alloc w o k hk⟩
theorem OnlyB.cell {b : Nat} {v w : World} (h : OnlyB b v w) {k o : Nat} (hk : k < v.heap.size) (hb : k ≠ b) : w.cell? ⟨k, o, none⟩ = v.cell? ⟨k, o, none⟩ := World.cell?_of_block (h.block k hk hb)
theorem OnlyB.frozen {b : Nat} {v w : World} (h : OnlyB b v w) {k o : Nat} (hk : k < v.heap.size) (hb : k ≠ b) : w.frozen? ⟨k, o, none⟩ = v.frozen? ⟨k, o, none⟩ := World.frozen?_of_block (h.block k hk hb)
theorem OnlyB.below {b B : Nat} {v w : World} (h : OnlyB b v w) (h1 : B ≤ b) (h2 : B ≤ v.heap.size) : Below B v w :=
  ⟨h.os, h.tape, h.output, h.size, fun k hk => h.block k (by omega) (by omega)⟩

section
variable {P : Program} (w : World)
/-- 'append(xs, x)' where there is room: in place. -/
theorem wpList_append1 {ops : Array Oper} {rest : List Oper} {o : Oper} {a : Act} {Q : Exit → Act → World → Prop} (hgd : o.guard = none) (s x : Operand) (t : TypeId)
    (ho : o.op = .call { callee := .builtin .append, args := #[s, x], argTypes := #[t, t] })
    (e : TypeId) (ht : P.underlying t = some (.slice e)) (hsz : (P.info? e).map (fun i => i.size) = some 1)
    (g n cap : Nat) (cur : Array Value) (hs : a.eval s = .slice (some ⟨g, 0, none⟩) n cap) (hg : w.heap[g]? = some (.cells cur e (0, 0)))
    (ad : Addr) (u : Value) (hx : a.eval x = .slice (some ad) 1 1) (hc : w.cell? ad = some u) (h1 : u.oneCell' = true) (hroom : n < cap) (hfit : n < cur.size)
    (h : ∀ w', w'.heap[g]? = some (.cells (cur.setIfInBounds n u) e (0, 0)) → w'.heap.size = w.heap.size → OnlyB g w w' → wpList P ops Q rest (a.put o.dst (.slice (some ⟨g, 0, none⟩) (n + 1) cap)) w') : wpList P ops Q (o :: rest) a w := by
  refine wpList_plain hgd fun _ hK => ?_
  obtain ⟨i, hi, hsi⟩ := Option.map_eq_some_iff.1 hsz
  have hr := run_append_room (P := P) w t o.type e i ht hi g n cap cur hg ad 1 1 [u] (by rw [hsi]; rfl)
    (by intro j v hj; match j, hj with | 0, hj => simp only [List.getElem?_cons_zero, Option.some.injEq] at hj; subst hj; simpa [Addr.add] using hc)
    (by intro v hv; rw [List.mem_singleton] at hv; rw [hv]; exact h1) hroom (by rw [hsi]; simp; omega)
  unfold Oper.wp execOp
  simp only [ho, resolve, invoke, builtin, Sem.run_bind, Sem.run_pure, Result.andThen_ok, List.map_toArray, List.map_cons, List.map_nil, hs, hx, hr]
  have hl : (cur.toList.take (n * i.size) ++ [u] ++ cur.toList.drop (n * i.size + [u].length)).toArray = cur.setIfInBounds n u := by
    rw [hsi, Nat.mul_one]
    apply Array.ext'
    rw [Array.toList_setIfInBounds, List.set_eq_take_append_cons_drop, if_pos (by simpa using hfit)]
    simp
  rw [hl]
  refine hK _ _ (h _ (setRow_heap w g cur _ e _ hg) (by simp) ⟨rfl, rfl, rfl, by simp, fun k _ hk => setRow_other w g k _ hk⟩)
end

/-- A strings.Reader over s at byte i, in block b. -/
structure Rdr (b : Nat) (s : ByteArray) (i : Int) (w : World) : Prop where
  c0 : w.cell? ⟨b, 0, none⟩ = some (.string s)
  c1 : w.cell? ⟨b, 1, none⟩ = some (.int .i64 i)
  c2 : w.cell? ⟨b, 2, none⟩ = some (.int .i64 (-1))
  f1 : w.frozen? ⟨b, 1, none⟩ = false
  f2 : w.frozen? ⟨b, 2, none⟩ = false

theorem lt_of_cell {w : World} {a : Addr} {v : Value} (h : w.cell? a = some v) : a.block < w.heap.size := by
  unfold World.cell? at h
  cases hh : w.heap[a.block]? with
  | none => rw [hh] at h; cases h
  | some o => exact (Array.getElem?_eq_some_iff.1 hh).1
theorem Rdr.alloc {b : Nat} {s : ByteArray} {i : Int} {w : World} (h : Rdr b s i w) (o : Obj) : Rdr b s i (w.alloc o) := by
  have hb : b < w.heap.size := lt_of_cell h.c0
  have B := (Below.refl w.heap.size w).alloc (Nat.le_refl _) o
  exact ⟨(B.cell (p := ⟨b, 0, none⟩) hb).trans h.c0, (B.cell (p := ⟨b, 1, none⟩) hb).trans h.c1, (B.cell (p := ⟨b, 2, none⟩) hb).trans h.c2, (B.frozen (p := ⟨b, 1, none⟩) hb).trans h.f1, (B.frozen (p := ⟨b, 2, none⟩) hb).trans h.f2⟩
theorem heap_alloc_new (w : World) (o : Obj) (k : Nat) (h : k = w.heap.size) : (w.alloc o).heap[k]? = some o := by
  subst h
  show (w.heap.push o)[w.heap.size]? = _
  simp

set_option maxHeartbeats 400000 in
theorem ReadByte_1 (b : Nat) (w : World) (h : Rdr b ⟨#[49]⟩ 0 w) :
    Calls Tryz.prog 323 #[.pointer (some ⟨b, 0, none⟩)] w fun e' w' => e' = .returned (.tuple #[.int .u8 49, .nilIface]) ∧ w'.heap.size = w.heap.size ∧ OnlyB b w w' ∧ Rdr b ⟨#[49]⟩ 1 w' := by
  obtain ⟨h0, h1, h2, f1, f2⟩ := h
  go_enter Tryz.func323, Tryz.ntmps323
  go_wp2
  go_quiet (fail)
  go_wp2
  go_quiet (fail)
  go_wp2
  go_ret2
  exact ⟨rfl, by simp, (((OnlyB.refl _ _).setCell _ _).drewN _).setCell _ _, by go_side, by go_side, by go_side, by go_side, by go_side⟩

set_option maxHeartbeats 400000 in
theorem ReadByte_end_1 (b : Nat) (eof : Value) (w : World) (g : w.cell? ⟨2, 0, none⟩ = some eof) (h : Rdr b ⟨#[49]⟩ 1 w) :
    Calls Tryz.prog 323 #[.pointer (some ⟨b, 0, none⟩)] w fun e' w' => e' = .returned (.tuple #[.int .u8 0, eof]) ∧ w'.heap.size = w.heap.size ∧ OnlyB b w w' ∧ Rdr b ⟨#[49]⟩ 1 w' := by
  obtain ⟨h0, h1, h2, f1, f2⟩ := h
  go_enter Tryz.func323, Tryz.ntmps323
  go_wp2
  go_quiet (fail)
  go_wp2
  go_quiet (fail)
  go_wp2
  go_ret2
  exact ⟨rfl, by simp, (((OnlyB.refl _ _).setCell _ _).drewN _).drewN _, by go_side, by go_side, by go_side, by go_side, by go_side⟩

set_option maxHeartbeats 400000 in
theorem UnreadByte_1 (b : Nat) (w : World) (h : Rdr b ⟨#[49]⟩ 1 w) :
    Calls Tryz.prog 324 #[.pointer (some ⟨b, 0, none⟩)] w fun e' w' => e' = .returned .nilIface ∧ w'.heap.size = w.heap.size ∧ OnlyB b w w' ∧ Rdr b ⟨#[49]⟩ 0 w' := by
  obtain ⟨h0, h1, h2, f1, f2⟩ := h
  go_enter Tryz.func324, Tryz.ntmps324
  go_wp2
  go_ret
  exact ⟨rfl, by simp, ((OnlyB.refl _ _).setCell _ _).setCell _ _, by go_side, by go_side, by go_side, by go_side, by go_side⟩
set_option maxHeartbeats 400000 in
theorem ReadByte_2 (b : Nat) (w : World) (h : Rdr b ⟨#[50]⟩ 0 w) :
    Calls Tryz.prog 323 #[.pointer (some ⟨b, 0, none⟩)] w fun e' w' => e' = .returned (.tuple #[.int .u8 50, .nilIface]) ∧ w'.heap.size = w.heap.size ∧ OnlyB b w w' ∧ Rdr b ⟨#[50]⟩ 1 w' := by
  obtain ⟨h0, h1, h2, f1, f2⟩ := h
  go_enter Tryz.func323, Tryz.ntmps323
  go_wp2
  go_quiet (fail)
  go_wp2
  go_quiet (fail)
  go_wp2
  go_ret2
  exact ⟨rfl, by simp, (((OnlyB.refl _ _).setCell _ _).drewN _).setCell _ _, by go_side, by go_side, by go_side, by go_side, by go_side⟩

set_option maxHeartbeats 400000 in
theorem ReadByte_end_2 (b : Nat) (eof : Value) (w : World) (g : w.cell? ⟨2, 0, none⟩ = some eof) (h : Rdr b ⟨#[50]⟩ 1 w) :
    Calls Tryz.prog 323 #[.pointer (some ⟨b, 0, none⟩)] w fun e' w' => e' = .returned (.tuple #[.int .u8 0, eof]) ∧ w'.heap.size = w.heap.size ∧ OnlyB b w w' ∧ Rdr b ⟨#[50]⟩ 1 w' := by
  obtain ⟨h0, h1, h2, f1, f2⟩ := h
  go_enter Tryz.func323, Tryz.ntmps323
  go_wp2
  go_quiet (fail)
  go_wp2
  go_quiet (fail)
  go_wp2
  go_ret2
  exact ⟨rfl, by simp, (((OnlyB.refl _ _).setCell _ _).drewN _).drewN _, by go_side, by go_side, by go_side, by go_side, by go_side⟩

set_option maxHeartbeats 400000 in
theorem UnreadByte_2 (b : Nat) (w : World) (h : Rdr b ⟨#[50]⟩ 1 w) :
    Calls Tryz.prog 324 #[.pointer (some ⟨b, 0, none⟩)] w fun e' w' => e' = .returned .nilIface ∧ w'.heap.size = w.heap.size ∧ OnlyB b w w' ∧ Rdr b ⟨#[50]⟩ 0 w' := by
  obtain ⟨h0, h1, h2, f1, f2⟩ := h
  go_enter Tryz.func324, Tryz.ntmps324
  go_wp2
  go_ret
  exact ⟨rfl, by simp, ((OnlyB.refl _ _).setCell _ _).setCell _ _, by go_side, by go_side, by go_side, by go_side, by go_side⟩
set_option maxHeartbeats 400000 in
theorem ReadByte_3 (b : Nat) (w : World) (h : Rdr b ⟨#[51]⟩ 0 w) :
    Calls Tryz.prog 323 #[.pointer (some ⟨b, 0, none⟩)] w fun e' w' => e' = .returned (.tuple #[.int .u8 51, .nilIface]) ∧ w'.heap.size = w.heap.size ∧ OnlyB b w w' ∧ Rdr b ⟨#[51]⟩ 1 w' := by
  obtain ⟨h0, h1, h2, f1, f2⟩ := h
  go_enter Tryz.func323, Tryz.ntmps323
  go_wp2
  go_quiet (fail)
  go_wp2
  go_quiet (fail)
  go_wp2
  go_ret2
  exact ⟨rfl, by simp, (((OnlyB.refl _ _).setCell _ _).drewN _).setCell _ _, by go_side, by go_side, by go_side, by go_side, by go_side⟩

set_option maxHeartbeats 400000 in
theorem ReadByte_end_3 (b : Nat) (eof : Value) (w : World) (g : w.cell? ⟨2, 0, none⟩ = some eof) (h : Rdr b ⟨#[51]⟩ 1 w) :
    Calls Tryz.prog 323 #[.pointer (some ⟨b, 0, none⟩)] w fun e' w' => e' = .returned (.tuple #[.int .u8 0, eof]) ∧ w'.heap.size = w.heap.size ∧ OnlyB b w w' ∧ Rdr b ⟨#[51]⟩ 1 w' := by
  obtain ⟨h0, h1, h2, f1, f2⟩ := h
  go_enter Tryz.func323, Tryz.ntmps323
  go_wp2
  go_quiet (fail)
  go_wp2
  go_quiet (fail)
  go_wp2
  go_ret2
  exact ⟨rfl, by simp, (((OnlyB.refl _ _).setCell _ _).drewN _).drewN _, by go_side, by go_side, by go_side, by go_side, by go_side⟩

set_option maxHeartbeats 400000 in
theorem UnreadByte_3 (b : Nat) (w : World) (h : Rdr b ⟨#[51]⟩ 1 w) :
    Calls Tryz.prog 324 #[.pointer (some ⟨b, 0, none⟩)] w fun e' w' => e' = .returned .nilIface ∧ w'.heap.size = w.heap.size ∧ OnlyB b w w' ∧ Rdr b ⟨#[51]⟩ 0 w' := by
  obtain ⟨h0, h1, h2, f1, f2⟩ := h
  go_enter Tryz.func324, Tryz.ntmps324
  go_wp2
  go_ret
  exact ⟨rfl, by simp, ((OnlyB.refl _ _).setCell _ _).setCell _ _, by go_side, by go_side, by go_side, by go_side, by go_side⟩

set_option maxHeartbeats 4000000 in
theorem maxPow_10 (w : World) : Calls Tryz.prog 109 #[.int .u64 10] w fun e' w' => e' = .returned (.tuple #[.int .u64 10000000000000000000, .int .i64 19]) ∧ w = w' := by
  go_enter Tryz.func109, Tryz.ntmps109
  go_wp2
  go_rounds 20
  go_ret2
  exact ⟨rfl, rfl⟩

set_option maxHeartbeats 400000 in
theorem pow_10_1 (w : World) : Calls Tryz.prog 136 #[.int .u64 10, .int .i64 1] w fun e' w' => e' = .returned (.int .u64 10) ∧ w = w' := by
  go_enter Tryz.func136, Tryz.ntmps136
  go_wp2
  go_rounds 2
  go_ret
  exact ⟨rfl, rfl⟩

end Go.Proofs.YtiiopcjdbldihaaGreatFmt
