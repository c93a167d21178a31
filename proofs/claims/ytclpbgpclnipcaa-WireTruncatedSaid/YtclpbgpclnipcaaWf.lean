/-
  Package wire: the statements' rows.
-/
import Derived.Test.YtclpbgpclnipcaaRows
import Derived.Test.YtclpbgpclnipcaaWe
import Derived.Test.YtclpbgpclnipcaaSc
set_option linter.unusedSimpArgs false
set_option linter.unusedVariables false
namespace Go.Proofs.Ytclpbgpclnipcaa
open Go.ChangeShapes Go.WideShapes Go.RowKit Go.Sx

theorem ownT : ownKnob Try.prog.godebug = none := by kernel_rfl
theorem loT : laidOutB Try.prog = true := by kernel_rfl
theorem mrT : mapsRowed Try.prog = true := by kernel_rfl
theorem slT : slicesB Try.prog = true := by kernel_rfl
theorem c3 : Try.prog.cellsOf 3 = 1 := by kernel_rfl
theorem c5 : Try.prog.cellsOf 5 = 1 := by kernel_rfl
theorem c9 : Try.prog.cellsOf 9 = 1 := by kernel_rfl
theorem c57 : Try.prog.cellsOf 57 = 16 * 1 := by kernel_rfl
theorem b3 : 1 ≤ Try.prog.bytesOf 3 := by decide +kernel
theorem b5 : 1 ≤ Try.prog.bytesOf 5 := by decide +kernel
theorem b9 : 1 ≤ Try.prog.bytesOf 9 := by decide +kernel
theorem b57 : 1 ≤ Try.prog.bytesOf 57 := by decide +kernel
def glN : Nat → C := fun _ => .top
theorem glN_ok (W : World) (g : Nat) : Rep (GW W) (glN g) (.pointer (some ⟨g, 0, none⟩)) := by simp [glN, Rep]
theorem glN_noRef : ∀ g, noRef 0 (glN g) = true := fun _ => rfl
theorem trods_nil2 {H : Type} {enc : TypeId × Value → H} {P : Program} {W : World} {b : Nat} {sp : Nat → Bool} {hd : Bool} {vs : List Value} {ds : List (DataW H)} {ps : List MemPlace}
    (h : DataW.TrodAll enc P W b sp hd [] vs ds ps) : ds = [] := by
  cases vs <;> cases ds <;> simp only [DataW.TrodAll] at h <;> rfl
theorem bulkOK {H : Type} : BulkOK (H := H) Rows.uptoBulk Rows.uptoBulkAll :=
  ⟨fun d => by
    cases d with
    | lit l => cases l <;> simp [Rows.uptoBulk]
    | nil => simp [Rows.uptoBulk]
    | ptr d => simp [Rows.uptoBulk]
    | slice elems spare => simp [Rows.uptoBulk]
    | agg parts => simp [Rows.uptoBulk]
    | iface t d => simp [Rows.uptoBulk]
    | map entries =>
      cases entries with
      | nil => simp [Rows.uptoBulk, Rows.uptoBulkEntries]
      | cons x r => simp [Rows.uptoBulk, Rows.uptoBulkEntries]
    | held h => simp [Rows.uptoBulk],
   fun s => by simp [Rows.uptoBulk], fun e s => by simp [Rows.uptoBulk], fun e => by simp [Rows.uptoBulk], by simp [Rows.uptoBulkAll], fun d r => by simp [Rows.uptoBulkAll]⟩
theorem bulk_le {H : Type} {l : List (DataW H)} (h : Rows.uptoSmall H l = true) : Rows.uptoBulkAll l ≤ 1048576 := of_decide_eq_true h

theorem rds_dig' : Rdx Try.prog 57 dC (fun d H x => ∃ l, RA 16 RB l H x ∧ l = d.1) := fun h => by
  obtain ⟨l, h1, h2, h3⟩ := rdx_array (td_spec td57).1 c5 c57 (rdx_u8 (td_spec td5).1) h
  exact ⟨⟨l, h1.choose_spec.2.1⟩, ⟨l, h1, rfl⟩, h2, h3⟩
abbrev RD : Rel Dig := fun d H x => ∃ l, RA 16 RB l H x ∧ l = d.1
theorem x3 : AX Try.prog 3 (fun n : Int => .val (.int .i64 n)) RI := ax_int td3
theorem x9 : AX Try.prog 9 (fun l : List UInt8 => .val (str l)) RS := ax_str td9
theorem x28 : AX Try.prog 28 (fun l : List UInt8 => sl bC .no l) (RL RB) := ax_slice td28 c5 (rdx_u8 (td_spec td5).1)
theorem x22 : AX Try.prog 22 (fun l : List Int => sl iC .no l) (RL RI) := ax_slice td22 c3 (rdx_int (td_spec td3).1)
theorem x23 : AX Try.prog 23 (fun l : List (List UInt8) => sl sC .no l) (RL RS) := ax_slice td23 c9 (rdx_str (td_spec td9).1)
theorem x24 : AX Try.prog 24 (fun l : List Dig => sl dC .no l) (RL RD) := ax_slice td24 (c57.trans (by decide)) rds_dig'
theorem ints_rng {l : List Int} {H : Type} {d : DataW H} (h : RL RI l H d) : ∀ x ∈ l, -9223372036854775808 ≤ x ∧ x ≤ 9223372036854775807 := by
  rcases h with ⟨rfl, _⟩ | ⟨e, s, _, _, h2, h3⟩
  · intro x hx; cases hx
  · intro x hx
    obtain ⟨i, hi⟩ := List.getElem?_of_mem hx
    have hl := (List.getElem?_eq_some_iff.1 hi).1
    exact (h3 i x _ hi (List.getElem?_eq_getElem (by omega))).1
theorem strs_sum {l : List (List UInt8)} {H : Type} {d : DataW H} (h : RL RS l H d) : l.length + l.flatten.length ≤ Rows.uptoBulk d := by
  have h1 := bk_list bulkOK (fun s : List UInt8 => s.length + 1) (fun a d hR => bk_str bulkOK hR) h
  have h2 : ∀ l : List (List UInt8), (l.map fun s => s.length + 1).sum = l.length + l.flatten.length := by
    intro l
    induction l with
    | nil => rfl
    | cons a l ih => rw [List.map_cons, List.sum_cons, ih, List.length_cons, List.flatten_cons, List.length_append]; omega
  rw [h2] at h1
  omega

end Go.Proofs.Ytclpbgpclnipcaa
