/- ContactWitnesses: for every house, every sheet, all given times, every index and every shift the law returns true and leaves its arguments alone. Conditions: those of the given row. -/
import Derived.Test.YtlapbaiejnaeiaaGreatDoorXg
import Derived.Test.YtlapbaiejnaeiaaGreatDoorMu
import Derived.Test.YtlapbaiejnaeiaaGreatDoorXm
set_option linter.all false
namespace Go.Proofs.YtlapbaiejnaeiaaGreatDoor.contactWitnesses
open Go.ChangeShapes Go.WideShapes Go.ChangeAt Go.RowKit

set_option maxRecDepth 100000 in
theorem contract (H : Type) (enc : TypeId × Value -> H) (W : World) (base : Nat) (args : Array Value) (ds gs : List (DataW H)) (before : List MemPlace)
    (hval : ∀ (j : Nat) t v, Tryz.f6.params[j]? = some t -> args[j]? = some v -> Value.okWide Tryz.prog W .any base t v)
    (hW : DataW.Whole enc Tryz.prog Tryz.f6.params.toList Rows.contactWitnessesSpec.vars false W args.toList ds gs before) (hz : (DataW.weightsEach Tryz.prog (Tryz.f6.params.toList ++ (OpenSpec.ofChange Rows.contactWitnessesSpec).bare.plain.varTypes Tryz.prog) (ds ++ gs)).all (· <= reachBytes) = true) (hL : laidMetH Tryz.prog Rows.contactWitnessesRow.laid W) (hSh : W.ShapedOpen Tryz.prog) :
    Calls Tryz.prog 6 args W fun e W' => ∃ v, e = .returned v /\ Rows.contactWitnessesSpec.post enc Tryz.prog Tryz.f6 false true false false W args v W' := by
  have hW' := hW
  obtain ⟨p, q, hA0, hV, rfl, hfz, hnd⟩ := hW
  have hA : DataW.TrodAll enc Tryz.prog W 0 (fun _ => true) true Tryz.f6.params.toList args.toList ds p := hA0
  rw [Tryz.params6] at hA hval hz
  have hG := Ab9 hL hSh
  obtain ⟨v0, vs0, d0, ds0, p0, q0, hargs, rfl, rfl, h0, r0⟩ := trodAll_cons hA
  obtain ⟨v1, vs1, d1, ds1, p1, q1, rfl, rfl, rfl, h1, r1⟩ := trodAll_cons r0
  obtain ⟨v2, vs2, d2, ds2, p2, q2, rfl, rfl, rfl, h2, r2⟩ := trodAll_cons r1
  obtain ⟨v3, vs3, d3, ds3, p3, q3, rfl, rfl, rfl, h3, r3⟩ := trodAll_cons r2
  obtain ⟨v4, vs4, d4, ds4, p4, q4, rfl, rfl, rfl, h4, r4⟩ := trodAll_cons r3
  obtain ⟨rfl, rfl, rfl⟩ := trodAll_nil r4
  obtain rfl : args = #[v0, v1, v2, v3, v4] := by cases args; simp_all
  obtain ⟨rfl, rfl⟩ := trodVars_none hV
  simp only [List.toList_toArray, a2j, a3m, DataW.weightsEach, a2r, a0y] at hz
  obtain ⟨h, hf, g0⟩ := A35 (hval 0 46 v0 rfl rfl) h0 hz.1
  obtain ⟨c, hc, g1⟩ := A37 (hval 1 50 v1 rfl rfl) h1 hz.2.1
  obtain ⟨l, hl, _, g2⟩ := A36 (hval 2 51 v2 rfl rfl) h2 hz.2.2.1
  obtain ⟨k, hk0, hk⟩ := Abv (hval 3 5 v3 rfl rfl)
  obtain ⟨w, hw0, hw⟩ := A9n (hval 4 59 v4 rfl rfl)
  have g3 : RelV W noL Ap (.val (.int .u8 k)) v3 := by rw [hk]; exact A7 _
  have g4 : RelV W noL Ap (.val (.int .u16 w)) v4 := by rw [hw]; exact A7 _
  refine ((M6 h c hf hc l (by omega) k hk0.1 hk0.2 w hw0.1 hw0.2).run noL W [v0, v1, v2, v3, v4] hG (fun k hk => hk.elim) rfl (fun i x v hx hv => ?_)).mono ?_
  · match i, hx, hv with
    | 0, hx, hv => simp at hx hv; subst hx hv; exact g0
    | 1, hx, hv => simp at hx hv; subst hx hv; exact g1
    | 2, hx, hv => simp at hx hv; subst hx hv; exact g2
    | 3, hx, hv => simp at hx hv; subst hx hv; exact g3
    | 4, hx, hv => simp at hx hv; subst hx hv; exact g4
  rintro e W' ⟨v, rfl, hv, bel⟩
  obtain rfl := hv.val_eq
  exact ⟨_, rfl, _, _, _, [], _, [], hW', trodAll_mk1 (shut_bool Tryz.underlying4 _), (trodAll_cons_mk (Below.trod J6 (by kernel_rfl) (of_decide_eq_true (by kernel_rfl)) h0 bel (Ga h0)) (trodAll_cons_mk (Below.trod J6 (by kernel_rfl) (of_decide_eq_true (by kernel_rfl)) h1 bel (Ga h1)) (trodAll_cons_mk (Below.trod J6 (by kernel_rfl) (of_decide_eq_true (by kernel_rfl)) h2 bel (Ga h2)) (trodAll_cons_mk (Below.trod J6 (by kernel_rfl) (of_decide_eq_true (by kernel_rfl)) h3 bel (Ga h3)) (trodAll_cons_mk (Below.trod J6 (by kernel_rfl) (of_decide_eq_true (by kernel_rfl)) h4 bel (Ga h4)) trodAll_mk0))))), rfl, bel.frame _, fun h => by cases h⟩

theorem laid_met (os : Os) : laidMet Tryz.prog Rows.contactWitnessesRow.laid ((Nq os).forCall (fun _ _ => 0) ⟨#[], #[.agg #[.string ⟨#[]⟩, .int .i64 0, .slice none 0 0, .slice none 0 0], .agg #[.slice none 0 0, .slice none 0 0], .slice none 0 0, .int .u8 0, .int .u16 0], []⟩).memory :=
  laidMet_of_run' 8 (by kernel_rfl) (by kernel_rfl)
theorem reads (os : Os) {H : Type} (enc : TypeId × Value -> H) : ∃ places, DataW.whole enc Tryz.prog ((Nq os).forCall (fun _ _ => 0) ⟨#[], #[.agg #[.string ⟨#[]⟩, .int .i64 0, .slice none 0 0, .slice none 0 0], .agg #[.slice none 0 0, .slice none 0 0], .slice none 0 0, .int .u8 0, .int .u16 0], []⟩).memory Tryz.f6.params.toList Rows.contactWitnessesSpec.vars false (#[.agg #[.string ⟨#[]⟩, .int .i64 0, .slice none 0 0, .slice none 0 0], .agg #[.slice none 0 0, .slice none 0 0], .slice none 0 0, .int .u8 0, .int .u16 0] : Array Value).toList 8 = some ([.agg [.lit (.string []), .lit (.int .i64 0), .nil, .nil], .agg [.nil, .nil], .nil, .lit (.int .u8 0), .lit (.int .u16 0)], [], places) :=
  ⟨[], by kernel_rfl⟩

set_option maxRecDepth 100000 in
theorem lifted (os : Os) (started : os.Started) (H : Type) (enc : TypeId × Value -> H) (F : Stop.Interp) :
    ReturnsInHanded {} Tryz.checked os 6 .any ((OpenSpec.ofChange Rows.contactWitnessesSpec).preRow enc Tryz.prog Tryz.f6 Rows.contactWitnessesRow.domain false Rows.contactWitnessesRow.laid) (((OpenSpec.ofChange Rows.contactWitnessesSpec).at F).post enc Tryz.prog Tryz.f6 false true false false) := by
  obtain ⟨places, hx⟩ := reads os enc
  refine returnsInHanded_of_row (C := Tryz.checked) (s := OpenSpec.ofChange Rows.contactWitnessesSpec) own started (by kernel_rfl) a8w
    (witness_row_at (enc := enc) (C := Tryz.checked) false (Nq os) #[.agg #[.string ⟨#[]⟩, .int .i64 0, .slice none 0 0, .slice none 0 0], .agg #[.slice none 0 0, .slice none 0 0], .slice none 0 0, .int .u8 0, .int .u16 0] rfl (by kernel_rfl) (by kernel_rfl) (by kernel_rfl)
      (OpenSpec.preRow_of_cond 8 hx (by kernel_rfl) (fun k hk => by cases hk) (by kernel_rfl) (laid_met os))) ?_
  intro W base args ds gs before hval hW _ _ hz hL hSh _
  exact contract H enc W base args ds gs before hval hW hz hL hSh
theorem cl1 : (Rows.contactWitnessesRow.inPlace == Tryz.prog.inPlace 6) = true := by kernel_rfl
theorem cl2 : (Rows.contactWitnessesRow.unfollowed == Tryz.prog.unfollowed 6) = true := by kernel_rfl
theorem cl3 : (Rows.contactWitnessesRow.recurses == Tryz.prog.recurses 6) = true := by kernel_rfl
theorem cl4 : (Rows.contactWitnessesRow.named == Tryz.prog.varsNamed 6) = true := by kernel_rfl
theorem cl5 : mapsRowed Tryz.prog = true := by kernel_rfl
theorem cl6 : (Rows.contactWitnessesRow.plainKeys == Tryz.prog.plainKeys) = true := by kernel_rfl
theorem closed : joinedFacts Tryz.prog 6 Tryz.f6 (OpenSpec.ofChange Rows.contactWitnessesSpec).bare Rows.contactWitnessesRow = true := by
  unfold joinedFacts
  rw [cl1, cl2, cl3, cl4, cl5, cl6, J6]
  kernel_rfl
theorem said : Rows.ContactWitnessesSaid :=
  OpenClaim.holds_of_cond 6 Tryz.f6 rfl rfl rfl rfl rfl rfl rfl ⟨rfl, rfl, rfl, rfl, rfl⟩ rfl rfl rfl rfl rfl (by kernel_rfl) a8w closed
    (of_decide_eq_true (by kernel_rfl)) (by unfold Func.isWrapper; first | (rw [if_pos (by decide +kernel)]; kernel_rfl) | (rw [if_neg (by decide +kernel)]; exact ⟨rfl, rfl⟩))
    (fun os started H enc _ F => by rw [OpenClaim.pre_eq_preRow]; exact lifted os started H enc F)
theorem plain (f : FuncId) (fn : Func) (hf : Tryz.pinned.checked.prog.funcNamed Rows.contactWitnessesRow.func = some f) (hfn : Tryz.pinned.checked.prog.funcs[f]? = some fn) :
    true = Tryz.pinned.checked.prog.looks [] /\ ∀ (j : Nat) t, fn.params[j]? = some t -> Tryz.pinned.checked.prog.wantsStandIn t = false := by
  obtain rfl : f = 6 := a5j ((show Tryz.prog.funcNamed Rows.contactWitnessesRow.func = some 6 by kernel_rfl).symm.trans hf) |>.symm
  obtain rfl : fn = Tryz.f6 := (a5j (a8w.symm.trans hfn)).symm
  refine ⟨by kernel_rfl, fun j t ht => ?_⟩
  have hall : Tryz.f6.params.toList.all (fun t => !Tryz.prog.wantsStandIn t) = true := by kernel_rfl
  have := a0k.1 hall t (a3g.2 (Array.mem_of_getElem? ht))
  show Tryz.prog.wantsStandIn t = false
  simpa using this
/-- THE CARD. -/
theorem card : Rows.ContactWitnessesCardSaid :=
  Claim7.holds_tied_plain_at .later [] _ _ _ _ said (fun _ h => by cases h) (by kernel_rfl) (fun _ h => by cases h) contactWitnesses_row_tie rfl ⟨rfl, rfl⟩ (by kernel_rfl) rfl plain (by kernel_rfl)
#print axioms card
end Go.Proofs.YtlapbaiejnaeiaaGreatDoor.contactWitnesses
