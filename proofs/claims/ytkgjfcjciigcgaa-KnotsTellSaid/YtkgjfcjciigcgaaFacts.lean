/-
  The program's closed facts that every row needs: where the text of its make is long, its words are told apart once.
-/
import Derived.Test.YtkgjfcjciigcgaaRows
import Derived.ProofKit
import Derived.OpenShut
import Derived.ChangeOld
import Derived.Carry
namespace Go.Proofs.Ytkgjfcjciigcgaa.Sl
set_option maxRecDepth 100000

def orderChars : List Char := List.map Char.ofNat [104, 97, 114, 110, 101, 115, 115, 32, 102, 52, 102, 55, 98, 100, 55, 99, 102, 48, 49, 53, 100, 54, 56, 101, 55, 51, 52, 102, 102, 97, 54, 55, 53, 99, 50, 97, 56, 51, 102, 57, 55, 99, 97, 101, 99, 56, 57, 97, 100, 52, 101, 101, 98, 53, 56, 54, 54, 56, 54, 54, 97, 54, 53, 101, 55, 53, 48, 52, 99, 100, 102, 50, 32, 99, 117, 116, 32, 97, 116, 32, 97, 98, 97, 99, 105, 115, 116, 47, 97, 98, 97, 99, 105, 115, 116, 108, 97, 119, 57, 46, 82, 101, 119, 114, 105, 116, 101, 84, 101, 108, 108, 115, 32, 97, 98, 97, 99, 105, 115, 116, 47, 97, 98, 97, 99, 105, 115, 116, 108, 97, 119, 57, 46, 82, 101, 119, 114, 105, 116, 101, 66, 97, 99, 107, 32, 97, 98, 97, 99, 105, 115, 116, 47, 97, 98, 97, 99, 105, 115, 116, 108, 97, 119, 49, 53, 46, 83, 116, 97, 109, 112, 79, 114, 100, 101, 114, 32, 97, 98, 97, 99, 105, 115, 116, 47, 97, 98, 97, 99, 105, 115, 116, 108, 97, 119, 49, 53, 46, 83, 116, 97, 109, 112, 71, 111, 101, 115, 32, 97, 98, 97, 99, 105, 115, 116, 47, 97, 98, 97, 99, 105, 115, 116, 108, 97, 119, 49, 56, 46, 83, 104, 97, 114, 100, 84, 101, 108, 108, 115, 32, 97, 98, 97, 99, 105, 115, 116, 47, 97, 98, 97, 99, 105, 115, 116, 108, 97, 119, 49, 56, 46, 83, 104, 97, 114, 100, 65, 108, 108, 32, 97, 98, 97, 99, 105, 115, 116, 47, 97, 98, 97, 99, 105, 115, 116, 108, 97, 119, 50, 54, 46, 83, 101, 115, 115, 105, 111, 110, 70, 117, 108, 108, 32, 97, 98, 97, 99, 105, 115, 116, 47, 97, 98, 97, 99, 105, 115, 116, 116, 111, 112, 46, 84, 111, 112, 78, 97, 109, 101, 115, 32, 97, 98, 97, 99, 105, 115, 116, 47, 97, 98, 97, 99, 105, 115, 116, 108, 97, 119, 53, 46, 84, 114, 101, 101, 68, 101, 101, 112, 32, 97, 98, 97, 99, 105, 115, 116, 47, 97, 98, 97, 99, 105, 115, 116, 108, 97, 119, 53, 46, 84, 114, 101, 101, 75, 105, 110, 100, 115, 32, 97, 98, 97, 99, 105, 115, 116, 47, 97, 98, 97, 99, 105, 115, 116, 108, 97, 119, 53, 46, 84, 114, 101, 101, 84, 101, 108, 108, 115, 32, 97, 98, 97, 99, 105, 115, 116, 47, 97, 98, 97, 99, 105, 115, 116, 108, 97, 119, 49, 55, 46, 84, 97, 108, 108, 121, 84, 101, 108, 108, 115, 32, 97, 98, 97, 99, 105, 115, 116, 47, 97, 98, 97, 99, 105, 115, 116, 108, 97, 119, 50, 53, 46, 87, 105, 110, 100, 111, 119, 87, 114, 111, 110, 103, 32, 97, 98, 97, 99, 105, 115, 116, 47, 97, 98, 97, 99, 105, 115, 116, 108, 97, 119, 49, 54, 46, 70, 114, 111, 110, 116, 80, 108, 97, 121, 115, 32, 97, 98, 97, 99, 105, 115, 116, 47, 97, 98, 97, 99, 105, 115, 116, 108, 97, 119, 49, 54, 46, 70, 114, 111, 110, 116, 76, 101, 97, 115, 116, 32, 97, 98, 97, 99, 105, 115, 116, 47, 97, 98, 97, 99, 105, 115, 116, 108, 97, 119, 56, 46, 82, 101, 102, 115, 82, 97, 110, 103, 101, 32, 97, 98, 97, 99, 105, 115, 116, 47, 97, 98, 97, 99, 105, 115, 116, 108, 97, 119, 50, 53, 46, 87, 105, 110, 100, 111, 119, 80, 108, 97, 121, 115, 32, 97, 98, 97, 99, 105, 115, 116, 47, 97, 98, 97, 99, 105, 115, 116, 108, 97, 119, 56, 46, 82, 101, 102, 115, 84, 101, 108, 108, 32, 97, 98, 97, 99, 105, 115, 116, 47, 97, 98, 97, 99, 105, 115, 116, 108, 97, 119, 50, 53, 46, 87, 105, 110, 100, 111, 119, 84, 101, 108, 108, 115, 32, 97, 98, 97, 99, 105, 115, 116, 47, 97, 98, 97, 99, 105, 115, 116, 108, 97, 119, 50, 53, 46, 87, 105, 110, 100, 111, 119, 83, 101, 101, 115, 32, 97, 98, 97, 99, 105, 115, 116, 47, 97, 98, 97, 99, 105, 115, 116, 108, 97, 119, 49, 55, 46, 84, 97, 108, 108, 121, 65, 110, 121, 32, 97, 98, 97, 99, 105, 115, 116, 47, 97, 98, 97, 99, 105, 115, 116, 108, 97, 119, 49, 50, 46, 68, 101, 112, 115, 84, 101, 108, 108, 32, 97, 98, 97, 99, 105, 115, 116, 47, 97, 98, 97, 99, 105, 115, 116, 108, 97, 119, 49, 50, 46, 68, 101, 112, 115, 77, 101, 101, 116, 32, 97, 98, 97, 99, 105, 115, 116, 47, 97, 98, 97, 99, 105, 115, 116, 108, 97, 119, 50, 54, 46, 83, 101, 115, 115, 105, 111, 110, 75, 101, 101, 112, 115, 32, 97, 98, 97, 99, 105, 115, 116, 47, 97, 98, 97, 99, 105, 115, 116, 108, 97, 119, 50, 54, 46, 83, 101, 115, 115, 105, 111, 110, 80, 108, 97, 121, 115, 32, 97, 98, 97, 99, 105, 115, 116, 47, 97, 98, 97, 99, 105, 115, 116, 108, 97, 119, 49, 51, 46, 75, 110, 111, 116, 115, 84, 101, 108, 108, 32, 97, 98, 97, 99, 105, 115, 116, 47, 97, 98, 97, 99, 105, 115, 116, 108, 97, 119, 49, 51, 46, 75, 110, 111, 116, 115, 79, 114, 100, 101, 114, 32, 97, 98, 97, 99, 105, 115, 116, 47, 97, 98, 97, 99, 105, 115, 116, 108, 97, 119, 49, 51, 46, 75, 110, 111, 116, 115, 82, 105, 110, 103, 32, 97, 98, 97, 99, 105, 115, 116, 47, 97, 98, 97, 99, 105, 115, 116, 108, 97, 119, 49, 51, 46, 75, 110, 111, 116, 115, 65, 108, 111, 110, 101]
theorem order_chars : Try.prog.initOrder.toList = orderChars := by
  have h : Try.prog.initOrder = String.ofList orderChars := by kernel_rfl
  rw [h]; exact String.toList_ofList
def orderTail : List (List Char) := (behindMainWord (wordsSigns orderChars)).drop 2
theorem order_words : behindMainWord (wordsSigns Try.prog.initOrder.toList) = "cut".toList :: "at".toList :: orderTail := by
  rw [order_chars]; kernel_rfl
theorem lays_later : Try.prog.laysLater = false := by kernel_rfl
theorem bears_reflect : Try.prog.bearsReflect = false := by kernel_rfl
theorem strip_cut (ws : List (List Char)) : stripLifts liftWords ("cut".toList :: ws) = ([], "cut".toList :: ws) := by rfl
theorem head_lifts_of {P : Program} {t : List (List Char)} (h : behindMainWord (wordsSigns P.initOrder.toList) = "cut".toList :: "at".toList :: t) : P.headLifts = [] := by unfold Program.headLifts; rw [h]; rfl
theorem lifts_final_of {P : Program} {t : List (List Char)} (h : behindMainWord (wordsSigns P.initOrder.toList) = "cut".toList :: "at".toList :: t) : P.liftsFinal = false := by unfold Program.liftsFinal; rw [head_lifts_of h, h]; rfl
theorem make_of {P : Program} {t : List (List Char)} (h : behindMainWord (wordsSigns P.initOrder.toList) = "cut".toList :: "at".toList :: t) : P.make = some .cut := by unfold Program.make; rw [h]; rfl
theorem may_enter_of {P : Program} {t : List (List Char)} (h : behindMainWord (wordsSigns P.initOrder.toList) = "cut".toList :: "at".toList :: t) (h1 : P.laysLater = false) (h2 : P.bearsReflect = false) (h3 : P.doorFits [] = true) : P.mayEnter = true := by
  unfold Program.mayEnter; rw [h]; simp only [strip_cut, h1, h2, h3]; rfl
theorem door_fits : Try.prog.doorFits [] = true := by kernel_rfl
theorem may_enter : Try.prog.mayEnter = true := may_enter_of order_words lays_later bears_reflect door_fits
theorem lifts_final : Try.prog.liftsFinal = false := lifts_final_of order_words
theorem make_is : Try.prog.make = some .cut := make_of order_words
theorem laid_out : laidOutB Try.prog = true := by kernel_rfl
theorem maps_rowed : mapsRowed Try.prog = true := by kernel_rfl
theorem stops_heard : Try.prog.stopsHeard = true := by kernel_rfl
theorem plain_keys : Try.prog.plainKeys = false := by kernel_rfl
theorem stops_none : (Try.prog.stops == []) = true := by kernel_rfl
theorem knobs_none : (Try.prog.stopKnobs == []) = true := by kernel_rfl
theorem joined_facts (f : FuncId) (fn : Func) (s : ChangeSpec) (c : OpenClaim)
    (h1 : c.wf (OpenSpec.ofChange s) = true) (h2 : (fn.params.all (Try.prog.readableRec ·) && namedTie Try.prog c.named s.vars && (c.stops == []) && (c.knobs == [])) = true)
    (h3 : (c.inPlace == Try.prog.inPlace f) = true) (h4 : (c.unfollowed == Try.prog.unfollowed f) = true) (h5 : (c.recurses == Try.prog.recurses f) = true) (h6 : (c.named == Try.prog.varsNamed f) = true)
    (h7 : ((c.maps == (fn.params.toList ++ s.plain.varTypes Try.prog).any (Try.prog.mapsRec ·)) && (c.ifaces == (fn.params.toList ++ s.plain.varTypes Try.prog).any (Try.prog.ifacesRec ·)) && (c.mapsOut == Try.prog.mapsAmong fn.resultTypes.toList)) = true)
    (h8 : ((c.loops == (fn.params.toList ++ s.plain.varTypes Try.prog).any (Try.prog.loopsFrom ·)) && (c.wideKeys == (fn.params.toList ++ s.plain.varTypes Try.prog ++ fn.resultTypes.toList).any (Try.prog.wideKeysFrom ·)) && s.vars.all (Try.prog.varReadable ·) && fn.resultTypes.all (fun t => Try.prog.readableRec t && decide (t < Try.prog.types.size)) && (c.ifacesOut == fn.resultTypes.toList.any (Try.prog.ifacesRec ·)) && (c.loopsOut == fn.resultTypes.toList.any (Try.prog.loopsFrom ·))) = true)
    (h9 : ((c.plainKeys == false) && c.shortTexts.isNone && (c.lifted == false) && (some Make.cut == some c.make) && (c.pinned == c.pinnedBy)) = true)
    (h10 : (c.kinds == (if c.domain.isEmpty then [] else fn.params.toList.map fun t => match Try.prog.underlying t with | some (.int k) => some k | _ => none)) = true)
    (h11 : ((c.veiled == (fn.params.toList ++ s.plain.varTypes Try.prog ++ fn.resultTypes.toList).any (Try.prog.veiledRec ·)) && c.veiledFits Try.prog fn.params.toList (fn.params.toList ++ s.plain.varTypes Try.prog ++ fn.resultTypes.toList)) = true) : joinedFacts Try.prog f fn s c = true := by
  unfold joinedFacts
  rw [may_enter, lifts_final, make_is, laid_out, maps_rowed, stops_heard, plain_keys, h3, h4, h5, h6, stops_none, knobs_none]
  simp only [Bool.and_eq_true] at h2 h7 h8 h9 h11
  simp only [h1, h2, h7, h8, h9, h11, Bool.and_self, Bool.and_true, Bool.true_and]
  exact h10
theorem own_knob : ownKnob Try.prog.godebug = none := by kernel_rfl
end Go.Proofs.Ytkgjfcjciigcgaa.Sl
