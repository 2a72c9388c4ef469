/- IdentAscending: for every input the law returns true: the identifiers of a source are distinct, and ascend if the times do not decrease (the card, tied to the program's text). -/
import Derived.Test.YtmgdgbnbikgmkaaDoorD1
import Derived.Test.YtmgdgbnbikgmkaaDoorL7
namespace Go.Proofs.YtmgdgbnbikgmkaaDoor.identAscending
open Go.ChangeShapes Go.WideShapes Go.ChangeAt Go.RowKit

/-- What the walk gives, for every argument and every world. -/
theorem contract (H : Type) (enc : TypeId × Value → H) (W : World) (base : Nat) (args : Array Value) (ds gs : List (DataW H)) (before : List MemPlace)
    (hval : ∀ (j : Nat) t v, Tryd.f8.params[j]? = some t → args[j]? = some v → Value.okWide Tryd.prog W .any base t v)
    (hW : DataW.Whole enc Tryd.prog Tryd.f8.params.toList Rows.identAscendingSpec.vars false W args.toList ds gs before) (_hL : laidMetH Tryd.prog Rows.identAscendingRow.laid W) :
    Calls Tryd.prog 8 args W fun e W' => ∃ v, e = .returned v ∧ Rows.identAscendingSpec.post enc Tryd.prog Tryd.f8 false true false false W args v W' := by
  have hW' := hW
  obtain ⟨p, q, hA0, hV, rfl, hfz, hnd⟩ := hW
  have hA : DataW.TrodAll enc Tryd.prog W 0 (fun _ => true) true Tryd.f8.params.toList args.toList ds p := hA0
  rw [Tryd.params8] at hA hval
  obtain ⟨v0, vs0, d0, ds0, p0, q0, hargs, rfl, rfl, h0, r0⟩ := trodAll_cons hA
  obtain ⟨v1, vs1, d1, ds1, p1, q1, rfl, rfl, rfl, h1, r1⟩ := trodAll_cons r0
  obtain ⟨rfl, rfl, rfl⟩ := trodAll_nil r1
  obtain rfl : args = #[v0, v1] := by cases args; simp_all
  obtain ⟨rfl, rfl⟩ := trodVars_none hV
  clear hA0 hargs
  suffices walk : Calls Tryd.prog 8 #[v0, v1] W fun e W' => e = .returned (.bool true) ∧ Ext W W' by
    refine walk.mono fun e W' ⟨he, hg⟩ => ?_
    subst he
    exact ⟨_, rfl, law_post (by kernel_rfl) (by kernel_rfl) rfl rfl Tryd.underlying4 hW' rfl hg⟩
  obtain ⟨n, rfl, rfl, rfl, wn⟩ := open_int Tryd.underlying50 (hval 0 50 v0 rfl rfl) h0
  have hn := inR_u32 wn
  obtain ⟨a0, len, cap, rfl⟩ := okWide_slice Tryd.underlying55 (hval 1 55 v1 rfl rfl)
  obtain ⟨fuel, hf⟩ := h1
  have cells1 : Tryd.prog.cellsOf 50 = 1 := by kernel_rfl
  rcases open_ints Tryd.underlying55 Tryd.underlying50 cells1 hf with ⟨hcs, hx⟩ | ⟨a, len', cap', zs, hcs, _, hl, hm, hz, hx, hcell, hwz⟩
  · simp only [Value.cells, List.cons.injEq, Value.slice.injEq, and_true] at hcs
    obtain ⟨rfl, rfl, rfl⟩ := hcs
    exact identAsc_in n none 0 0 [] 0 0 W (by omega) (fun h => absurd h (by omega)) (fun j hj => absurd hj (by omega)) hn
  · simp only [Value.cells, List.cons.injEq, Value.slice.injEq, and_true] at hcs
    obtain ⟨rfl, rfl, rfl⟩ := hcs
    unfold maxLen at hm
    have hz2 : zs.length = cap := by simpa using hz
    by_cases h100 : 100 < len
    · exact identAsc_long n (some a) len cap W h100 (by omega)
    · rcases Nat.eq_zero_or_pos len with h00 | h00
      · subst h00
        exact identAsc_in n (some a) 0 0 [] 0 cap W (by omega) (fun h => absurd h (by omega)) (fun j hj => absurd hj (by omega)) hn
      · obtain ⟨b, off, rfl, hc⟩ := ints_at hcell (by omega)
        have hb : b < W.heap.size := World.block_lt_of_cell? W ⟨b, off + 0, none⟩ (hc 0 (by omega))
        refine identAsc_in n (some ⟨b, off, none⟩) b off zs len cap W (by omega) (fun _ => ⟨rfl, hb⟩) (fun j hj => ⟨hc j (by omega), inR_u32 (hwz _ ?_)⟩) hn
        have hj2 : j < zs.length := by omega
        simp [List.getD, List.getElem?_eq_getElem hj2]

theorem laid_met (os : Os) : laidMet Tryd.prog Rows.identAscendingRow.laid ((laidWorld os).forCall (fun _ _ => 0) ⟨#[], #[.int .u32 0, .slice none 0 0], []⟩).memory :=
  laidMet_of_run' 8 (by kernel_rfl) (by kernel_rfl)
theorem reads (os : Os) {H : Type} (enc : TypeId × Value → H) : ∃ places, DataW.whole enc Tryd.prog ((laidWorld os).forCall (fun _ _ => 0) ⟨#[], #[.int .u32 0, .slice none 0 0], []⟩).memory Tryd.f8.params.toList Rows.identAscendingSpec.vars false #[.int .u32 0, .slice none 0 0].toList 8 = some ([.lit (.int .u32 0), .nil], [], places) :=
  ⟨[], by kernel_rfl⟩

set_option maxRecDepth 100000 in
theorem lifted (os : Os) (started : os.Started) (H : Type) (enc : TypeId × Value → H) (F : Stop.Interp) :
    ReturnsInHanded {} Tryd.checked os 8 .any ((OpenSpec.ofChange Rows.identAscendingSpec).preRow enc Tryd.prog Tryd.f8 Rows.identAscendingRow.domain false Rows.identAscendingRow.laid) (((OpenSpec.ofChange Rows.identAscendingSpec).at F).post enc Tryd.prog Tryd.f8 false true false false) := by
  obtain ⟨places, hx⟩ := reads os enc
  refine returnsInHanded_of_row (C := Tryd.checked) (s := OpenSpec.ofChange Rows.identAscendingSpec) own started (by kernel_rfl) Tryd.func8
    (witness_row_at (enc := enc) (C := Tryd.checked) false (laidWorld os) #[.int .u32 0, .slice none 0 0] rfl (by kernel_rfl) (by kernel_rfl) (by kernel_rfl)
      (OpenSpec.preRow_of_cond 8 hx (by kernel_rfl) (fun k hk => by cases hk) (by kernel_rfl) (laid_met os))) ?_
  intro W base args ds gs before hval hW _ _ _ hL _ _
  exact contract H enc W base args ds gs before hval hW hL

theorem said : Rows.IdentAscendingSaid :=
  OpenClaim.holds_of_cond 8 Tryd.f8 rfl rfl rfl rfl rfl rfl rfl ⟨rfl, rfl, rfl, rfl, rfl⟩ rfl rfl rfl rfl rfl (by kernel_rfl) Tryd.func8 (by kernel_rfl)
    (of_decide_eq_true (by kernel_rfl)) (by unfold Func.isWrapper; first | (rw [if_pos (by decide +kernel)]; kernel_rfl) | (rw [if_neg (by decide +kernel)]; exact ⟨rfl, rfl⟩))
    (fun os started H enc _ F => by rw [OpenClaim.pre_eq_preRow]; exact lifted os started H enc F)

theorem plain (f : FuncId) (fn : Func) (hf : Tryd.pinned.checked.prog.funcNamed "docstore/docstorelaw06.IdentAscending" = some f) (hfn : Tryd.pinned.checked.prog.funcs[f]? = some fn) :
    false = Tryd.pinned.checked.prog.looks [] ∧ ∀ (j : Nat) t, fn.params[j]? = some t → Tryd.pinned.checked.prog.wantsStandIn t = false := by
  obtain rfl : f = 8 := Option.some.inj ((show Tryd.prog.funcNamed "docstore/docstorelaw06.IdentAscending" = some 8 by kernel_rfl).symm.trans hf) |>.symm
  obtain rfl : fn = Tryd.f8 := (Option.some.inj (Tryd.func8.symm.trans hfn)).symm
  refine ⟨by kernel_rfl, fun j t ht => ?_⟩
  have hall : (Tryd.f8.params.all fun t => !Tryd.prog.wantsStandIn t) = true := by kernel_rfl
  have h1 := Array.all_eq_true'.1 hall t (Array.mem_of_getElem? ht)
  have h2 : Tryd.prog.wantsStandIn t = false := by simpa using h1
  exact h2

/-- The card. -/
theorem card : Rows.IdentAscendingCardSaid :=
  Claim7.holds_tied_plain_at .later [] _ _ _ _ said (fun _ h => by cases h) (by kernel_rfl) (fun _ h => by cases h) identAscending_row_tie rfl ⟨rfl, rfl⟩ (by kernel_rfl) rfl plain (by kernel_rfl)
end Go.Proofs.YtmgdgbnbikgmkaaDoor.identAscending
