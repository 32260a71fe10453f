-- WRITTEN BY A PROGRAM OF THE SESSION (wip/myprint.sh): Lean checks it.
import Derived.Test.YtlhmjmfcngegnaaDoorQA0
import Derived.Test.YtlhmjmfcngegnaaDoorQA1
import Derived.Test.YtlhmjmfcngegnaaDoorQA2
namespace Go.Proofs.YtlhmjmfcngegnaaDoor.QA
open Go.Proofs.YtlhmjmfcngegnaaDoorG
attribute [local go_sem] ext66
open Go.RowKit Go.Proofs.YtlhmjmfcngegnaaDoorW.PrintWords Go.Proofs.YtlhmjmfcngegnaaDoorW.PrintLast Go.Proofs.YtlhmjmfcngegnaaDoorW.PrintMore
attribute [local go_sem] max2_int min2_int max_two min_two max_three min_three max_four min_four   -- for this text's walks alone
set_option linter.unusedVariables false
set_option linter.unusedSimpArgs false

/-! ### foundrylaw01_FloatsOrders: function 3 -/
def foundrylaw01_FloatsOrders.f (k : Nat) (a0 : Int) (a1 : Int) : Option (Bool) := (floats_Equal.f a0 a1).bind fun t143 => ((foundryref01_Equal.f k a0 a1).bind fun t144 => (if t143 = true then (if t144 = true then ((floats_Less.f a0 a1).bind fun t145 => ((foundryref01_Less.f k a0 a1).bind fun t146 => (if t145 = true then (if t146 = true then ((floats_LessEq.f a0 a1).bind fun t147 => ((foundryref01_LessEq.f k a0 a1).bind fun t148 => (if t147 = true then (if t148 = true then ((floats_Compare.f a0 a1).bind fun t149 => ((foundryref01_Compare.f k a0 a1).bind fun t150 => (if t149 = t150 then ((foundrylaw01_alive.f k).bind fun t151 => (some t151)) else (some false)))) else (some false)) else (if t148 = true then (some false) else ((floats_Compare.f a0 a1).bind fun t152 => ((foundryref01_Compare.f k a0 a1).bind fun t153 => (if t152 = t153 then ((foundrylaw01_alive.f k).bind fun t154 => (some t154)) else (some false)))))))) else (some false)) else (if t146 = true then (some false) else ((floats_LessEq.f a0 a1).bind fun t155 => ((foundryref01_LessEq.f k a0 a1).bind fun t156 => (if t155 = true then (if t156 = true then ((floats_Compare.f a0 a1).bind fun t157 => ((foundryref01_Compare.f k a0 a1).bind fun t158 => (if t157 = t158 then ((foundrylaw01_alive.f k).bind fun t159 => (some t159)) else (some false)))) else (some false)) else (if t156 = true then (some false) else ((floats_Compare.f a0 a1).bind fun t160 => ((foundryref01_Compare.f k a0 a1).bind fun t161 => (if t160 = t161 then ((foundrylaw01_alive.f k).bind fun t162 => (some t162)) else (some false)))))))))))) else (some false)) else (if t144 = true then (some false) else ((floats_Less.f a0 a1).bind fun t163 => ((foundryref01_Less.f k a0 a1).bind fun t164 => (if t163 = true then (if t164 = true then ((floats_LessEq.f a0 a1).bind fun t165 => ((foundryref01_LessEq.f k a0 a1).bind fun t166 => (if t165 = true then (if t166 = true then ((floats_Compare.f a0 a1).bind fun t167 => ((foundryref01_Compare.f k a0 a1).bind fun t168 => (if t167 = t168 then ((foundrylaw01_alive.f k).bind fun t169 => (some t169)) else (some false)))) else (some false)) else (if t166 = true then (some false) else ((floats_Compare.f a0 a1).bind fun t170 => ((foundryref01_Compare.f k a0 a1).bind fun t171 => (if t170 = t171 then ((foundrylaw01_alive.f k).bind fun t172 => (some t172)) else (some false)))))))) else (some false)) else (if t164 = true then (some false) else ((floats_LessEq.f a0 a1).bind fun t173 => ((foundryref01_LessEq.f k a0 a1).bind fun t174 => (if t173 = true then (if t174 = true then ((floats_Compare.f a0 a1).bind fun t175 => ((foundryref01_Compare.f k a0 a1).bind fun t176 => (if t175 = t176 then ((foundrylaw01_alive.f k).bind fun t177 => (some t177)) else (some false)))) else (some false)) else (if t174 = true then (some false) else ((floats_Compare.f a0 a1).bind fun t178 => ((foundryref01_Compare.f k a0 a1).bind fun t179 => (if t178 = t179 then ((foundrylaw01_alive.f k).bind fun t180 => (some t180)) else (some false)))))))))))))))
theorem foundrylaw01_FloatsOrders.mono : ∀ a0 a1 k, LeO (foundrylaw01_FloatsOrders.f k a0 a1) (foundrylaw01_FloatsOrders.f (k + 1) a0 a1) := by
  intro a0 a1 k
  unfold foundrylaw01_FloatsOrders.f
  repeat' first
      | (with_reducible exact foundrylaw01_alive.mono _)
      | (with_reducible exact foundryref01_Compare.mono _ _ _)
      | (with_reducible exact foundryref01_Equal.mono _ _ _)
      | (with_reducible exact foundryref01_Less.mono _ _ _)
      | (with_reducible exact foundryref01_LessEq.mono _ _ _)
      | (with_reducible exact LeO.refl _)
      | (with_reducible exact LeO.none _)
      | (with_reducible refine LeO.ite ?_ ?_)
      | (with_reducible refine LeO.bind ?_ (fun _ => ?_))
      | exact foundrylaw01_alive.mono _
      | exact foundryref01_Compare.mono _ _ _
      | exact foundryref01_Equal.mono _ _ _
      | exact foundryref01_Less.mono _ _ _
      | exact foundryref01_LessEq.mono _ _ _
      | exact LeO.none _
      | refine LeO.ite ?_ ?_
      | refine LeO.bind ?_ (fun _ => ?_)
set_option maxHeartbeats 8000000 in
set_option maxRecDepth 100000 in
theorem foundrylaw01_FloatsOrders.calls (k : Nat) (a0 : Int) (a1 : Int) (r : Bool) (w : World) (h : foundrylaw01_FloatsOrders.f k a0 a1 = some r) :
    Calls Tryd.prog 3 #[.int .u64 a0, .int .u64 a1] w fun e w' => e = .returned (.bool r) ∧ Below w.heap.size w w' := by
  have HB := Aside0.mk (Below.refl w.heap.size w)
  have H : ((floats_Equal.f a0 a1).bind fun t143 => ((foundryref01_Equal.f k a0 a1).bind fun t144 => (if t143 = true then (if t144 = true then ((floats_Less.f a0 a1).bind fun t145 => ((foundryref01_Less.f k a0 a1).bind fun t146 => (if t145 = true then (if t146 = true then ((floats_LessEq.f a0 a1).bind fun t147 => ((foundryref01_LessEq.f k a0 a1).bind fun t148 => (if t147 = true then (if t148 = true then ((floats_Compare.f a0 a1).bind fun t149 => ((foundryref01_Compare.f k a0 a1).bind fun t150 => (if t149 = t150 then ((foundrylaw01_alive.f k).bind fun t151 => (some t151)) else (some false)))) else (some false)) else (if t148 = true then (some false) else ((floats_Compare.f a0 a1).bind fun t152 => ((foundryref01_Compare.f k a0 a1).bind fun t153 => (if t152 = t153 then ((foundrylaw01_alive.f k).bind fun t154 => (some t154)) else (some false)))))))) else (some false)) else (if t146 = true then (some false) else ((floats_LessEq.f a0 a1).bind fun t155 => ((foundryref01_LessEq.f k a0 a1).bind fun t156 => (if t155 = true then (if t156 = true then ((floats_Compare.f a0 a1).bind fun t157 => ((foundryref01_Compare.f k a0 a1).bind fun t158 => (if t157 = t158 then ((foundrylaw01_alive.f k).bind fun t159 => (some t159)) else (some false)))) else (some false)) else (if t156 = true then (some false) else ((floats_Compare.f a0 a1).bind fun t160 => ((foundryref01_Compare.f k a0 a1).bind fun t161 => (if t160 = t161 then ((foundrylaw01_alive.f k).bind fun t162 => (some t162)) else (some false)))))))))))) else (some false)) else (if t144 = true then (some false) else ((floats_Less.f a0 a1).bind fun t163 => ((foundryref01_Less.f k a0 a1).bind fun t164 => (if t163 = true then (if t164 = true then ((floats_LessEq.f a0 a1).bind fun t165 => ((foundryref01_LessEq.f k a0 a1).bind fun t166 => (if t165 = true then (if t166 = true then ((floats_Compare.f a0 a1).bind fun t167 => ((foundryref01_Compare.f k a0 a1).bind fun t168 => (if t167 = t168 then ((foundrylaw01_alive.f k).bind fun t169 => (some t169)) else (some false)))) else (some false)) else (if t166 = true then (some false) else ((floats_Compare.f a0 a1).bind fun t170 => ((foundryref01_Compare.f k a0 a1).bind fun t171 => (if t170 = t171 then ((foundrylaw01_alive.f k).bind fun t172 => (some t172)) else (some false)))))))) else (some false)) else (if t164 = true then (some false) else ((floats_LessEq.f a0 a1).bind fun t173 => ((foundryref01_LessEq.f k a0 a1).bind fun t174 => (if t173 = true then (if t174 = true then ((floats_Compare.f a0 a1).bind fun t175 => ((foundryref01_Compare.f k a0 a1).bind fun t176 => (if t175 = t176 then ((foundrylaw01_alive.f k).bind fun t177 => (some t177)) else (some false)))) else (some false)) else (if t174 = true then (some false) else ((floats_Compare.f a0 a1).bind fun t178 => ((foundryref01_Compare.f k a0 a1).bind fun t179 => (if t178 = t179 then ((foundrylaw01_alive.f k).bind fun t180 => (some t180)) else (some false)))))))))))))))) = some r := h
  clear h
  replace H := Option.bind_eq_some_iff.mp H
  obtain ⟨t143, A30, H⟩ := H
  replace H : ((foundryref01_Equal.f k a0 a1).bind fun t144 => (if t143 = true then (if t144 = true then ((floats_Less.f a0 a1).bind fun t145 => ((foundryref01_Less.f k a0 a1).bind fun t146 => (if t145 = true then (if t146 = true then ((floats_LessEq.f a0 a1).bind fun t147 => ((foundryref01_LessEq.f k a0 a1).bind fun t148 => (if t147 = true then (if t148 = true then ((floats_Compare.f a0 a1).bind fun t149 => ((foundryref01_Compare.f k a0 a1).bind fun t150 => (if t149 = t150 then ((foundrylaw01_alive.f k).bind fun t151 => (some t151)) else (some false)))) else (some false)) else (if t148 = true then (some false) else ((floats_Compare.f a0 a1).bind fun t152 => ((foundryref01_Compare.f k a0 a1).bind fun t153 => (if t152 = t153 then ((foundrylaw01_alive.f k).bind fun t154 => (some t154)) else (some false)))))))) else (some false)) else (if t146 = true then (some false) else ((floats_LessEq.f a0 a1).bind fun t155 => ((foundryref01_LessEq.f k a0 a1).bind fun t156 => (if t155 = true then (if t156 = true then ((floats_Compare.f a0 a1).bind fun t157 => ((foundryref01_Compare.f k a0 a1).bind fun t158 => (if t157 = t158 then ((foundrylaw01_alive.f k).bind fun t159 => (some t159)) else (some false)))) else (some false)) else (if t156 = true then (some false) else ((floats_Compare.f a0 a1).bind fun t160 => ((foundryref01_Compare.f k a0 a1).bind fun t161 => (if t160 = t161 then ((foundrylaw01_alive.f k).bind fun t162 => (some t162)) else (some false)))))))))))) else (some false)) else (if t144 = true then (some false) else ((floats_Less.f a0 a1).bind fun t163 => ((foundryref01_Less.f k a0 a1).bind fun t164 => (if t163 = true then (if t164 = true then ((floats_LessEq.f a0 a1).bind fun t165 => ((foundryref01_LessEq.f k a0 a1).bind fun t166 => (if t165 = true then (if t166 = true then ((floats_Compare.f a0 a1).bind fun t167 => ((foundryref01_Compare.f k a0 a1).bind fun t168 => (if t167 = t168 then ((foundrylaw01_alive.f k).bind fun t169 => (some t169)) else (some false)))) else (some false)) else (if t166 = true then (some false) else ((floats_Compare.f a0 a1).bind fun t170 => ((foundryref01_Compare.f k a0 a1).bind fun t171 => (if t170 = t171 then ((foundrylaw01_alive.f k).bind fun t172 => (some t172)) else (some false)))))))) else (some false)) else (if t164 = true then (some false) else ((floats_LessEq.f a0 a1).bind fun t173 => ((foundryref01_LessEq.f k a0 a1).bind fun t174 => (if t173 = true then (if t174 = true then ((floats_Compare.f a0 a1).bind fun t175 => ((foundryref01_Compare.f k a0 a1).bind fun t176 => (if t175 = t176 then ((foundrylaw01_alive.f k).bind fun t177 => (some t177)) else (some false)))) else (some false)) else (if t174 = true then (some false) else ((floats_Compare.f a0 a1).bind fun t178 => ((foundryref01_Compare.f k a0 a1).bind fun t179 => (if t178 = t179 then ((foundrylaw01_alive.f k).bind fun t180 => (some t180)) else (some false))))))))))))))) = some r := H
  have A3 := Aside0.mk A30
  clear A30
  replace H := Option.bind_eq_some_iff.mp H
  obtain ⟨t144, A40, H⟩ := H
  replace H : (if t143 = true then (if t144 = true then ((floats_Less.f a0 a1).bind fun t145 => ((foundryref01_Less.f k a0 a1).bind fun t146 => (if t145 = true then (if t146 = true then ((floats_LessEq.f a0 a1).bind fun t147 => ((foundryref01_LessEq.f k a0 a1).bind fun t148 => (if t147 = true then (if t148 = true then ((floats_Compare.f a0 a1).bind fun t149 => ((foundryref01_Compare.f k a0 a1).bind fun t150 => (if t149 = t150 then ((foundrylaw01_alive.f k).bind fun t151 => (some t151)) else (some false)))) else (some false)) else (if t148 = true then (some false) else ((floats_Compare.f a0 a1).bind fun t152 => ((foundryref01_Compare.f k a0 a1).bind fun t153 => (if t152 = t153 then ((foundrylaw01_alive.f k).bind fun t154 => (some t154)) else (some false)))))))) else (some false)) else (if t146 = true then (some false) else ((floats_LessEq.f a0 a1).bind fun t155 => ((foundryref01_LessEq.f k a0 a1).bind fun t156 => (if t155 = true then (if t156 = true then ((floats_Compare.f a0 a1).bind fun t157 => ((foundryref01_Compare.f k a0 a1).bind fun t158 => (if t157 = t158 then ((foundrylaw01_alive.f k).bind fun t159 => (some t159)) else (some false)))) else (some false)) else (if t156 = true then (some false) else ((floats_Compare.f a0 a1).bind fun t160 => ((foundryref01_Compare.f k a0 a1).bind fun t161 => (if t160 = t161 then ((foundrylaw01_alive.f k).bind fun t162 => (some t162)) else (some false)))))))))))) else (some false)) else (if t144 = true then (some false) else ((floats_Less.f a0 a1).bind fun t163 => ((foundryref01_Less.f k a0 a1).bind fun t164 => (if t163 = true then (if t164 = true then ((floats_LessEq.f a0 a1).bind fun t165 => ((foundryref01_LessEq.f k a0 a1).bind fun t166 => (if t165 = true then (if t166 = true then ((floats_Compare.f a0 a1).bind fun t167 => ((foundryref01_Compare.f k a0 a1).bind fun t168 => (if t167 = t168 then ((foundrylaw01_alive.f k).bind fun t169 => (some t169)) else (some false)))) else (some false)) else (if t166 = true then (some false) else ((floats_Compare.f a0 a1).bind fun t170 => ((foundryref01_Compare.f k a0 a1).bind fun t171 => (if t170 = t171 then ((foundrylaw01_alive.f k).bind fun t172 => (some t172)) else (some false)))))))) else (some false)) else (if t164 = true then (some false) else ((floats_LessEq.f a0 a1).bind fun t173 => ((foundryref01_LessEq.f k a0 a1).bind fun t174 => (if t173 = true then (if t174 = true then ((floats_Compare.f a0 a1).bind fun t175 => ((foundryref01_Compare.f k a0 a1).bind fun t176 => (if t175 = t176 then ((foundrylaw01_alive.f k).bind fun t177 => (some t177)) else (some false)))) else (some false)) else (if t174 = true then (some false) else ((floats_Compare.f a0 a1).bind fun t178 => ((foundryref01_Compare.f k a0 a1).bind fun t179 => (if t178 = t179 then ((foundrylaw01_alive.f k).bind fun t180 => (some t180)) else (some false)))))))))))))) = some r := H
  have A4 := Aside0.mk A40
  clear A40
  by_cases c5 : t143 = true
  · subst c5
    have H1 : (if t144 = true then ((floats_Less.f a0 a1).bind fun t145 => ((foundryref01_Less.f k a0 a1).bind fun t146 => (if t145 = true then (if t146 = true then ((floats_LessEq.f a0 a1).bind fun t147 => ((foundryref01_LessEq.f k a0 a1).bind fun t148 => (if t147 = true then (if t148 = true then ((floats_Compare.f a0 a1).bind fun t149 => ((foundryref01_Compare.f k a0 a1).bind fun t150 => (if t149 = t150 then ((foundrylaw01_alive.f k).bind fun t151 => (some t151)) else (some false)))) else (some false)) else (if t148 = true then (some false) else ((floats_Compare.f a0 a1).bind fun t152 => ((foundryref01_Compare.f k a0 a1).bind fun t153 => (if t152 = t153 then ((foundrylaw01_alive.f k).bind fun t154 => (some t154)) else (some false)))))))) else (some false)) else (if t146 = true then (some false) else ((floats_LessEq.f a0 a1).bind fun t155 => ((foundryref01_LessEq.f k a0 a1).bind fun t156 => (if t155 = true then (if t156 = true then ((floats_Compare.f a0 a1).bind fun t157 => ((foundryref01_Compare.f k a0 a1).bind fun t158 => (if t157 = t158 then ((foundrylaw01_alive.f k).bind fun t159 => (some t159)) else (some false)))) else (some false)) else (if t156 = true then (some false) else ((floats_Compare.f a0 a1).bind fun t160 => ((foundryref01_Compare.f k a0 a1).bind fun t161 => (if t160 = t161 then ((foundrylaw01_alive.f k).bind fun t162 => (some t162)) else (some false)))))))))))) else (some false)) = some r := by rw [if_pos rfl] at H; exact H
    clear H
    have H := H1
    clear H1
    by_cases c6 : t144 = true
    · subst c6
      have H1 : ((floats_Less.f a0 a1).bind fun t145 => ((foundryref01_Less.f k a0 a1).bind fun t146 => (if t145 = true then (if t146 = true then ((floats_LessEq.f a0 a1).bind fun t147 => ((foundryref01_LessEq.f k a0 a1).bind fun t148 => (if t147 = true then (if t148 = true then ((floats_Compare.f a0 a1).bind fun t149 => ((foundryref01_Compare.f k a0 a1).bind fun t150 => (if t149 = t150 then ((foundrylaw01_alive.f k).bind fun t151 => (some t151)) else (some false)))) else (some false)) else (if t148 = true then (some false) else ((floats_Compare.f a0 a1).bind fun t152 => ((foundryref01_Compare.f k a0 a1).bind fun t153 => (if t152 = t153 then ((foundrylaw01_alive.f k).bind fun t154 => (some t154)) else (some false)))))))) else (some false)) else (if t146 = true then (some false) else ((floats_LessEq.f a0 a1).bind fun t155 => ((foundryref01_LessEq.f k a0 a1).bind fun t156 => (if t155 = true then (if t156 = true then ((floats_Compare.f a0 a1).bind fun t157 => ((foundryref01_Compare.f k a0 a1).bind fun t158 => (if t157 = t158 then ((foundrylaw01_alive.f k).bind fun t159 => (some t159)) else (some false)))) else (some false)) else (if t156 = true then (some false) else ((floats_Compare.f a0 a1).bind fun t160 => ((foundryref01_Compare.f k a0 a1).bind fun t161 => (if t160 = t161 then ((foundrylaw01_alive.f k).bind fun t162 => (some t162)) else (some false)))))))))))) = some r := by rw [if_pos rfl] at H; exact H
      clear H
      have H := H1
      clear H1
      replace H := Option.bind_eq_some_iff.mp H
      obtain ⟨t145, A70, H⟩ := H
      replace H : ((foundryref01_Less.f k a0 a1).bind fun t146 => (if t145 = true then (if t146 = true then ((floats_LessEq.f a0 a1).bind fun t147 => ((foundryref01_LessEq.f k a0 a1).bind fun t148 => (if t147 = true then (if t148 = true then ((floats_Compare.f a0 a1).bind fun t149 => ((foundryref01_Compare.f k a0 a1).bind fun t150 => (if t149 = t150 then ((foundrylaw01_alive.f k).bind fun t151 => (some t151)) else (some false)))) else (some false)) else (if t148 = true then (some false) else ((floats_Compare.f a0 a1).bind fun t152 => ((foundryref01_Compare.f k a0 a1).bind fun t153 => (if t152 = t153 then ((foundrylaw01_alive.f k).bind fun t154 => (some t154)) else (some false)))))))) else (some false)) else (if t146 = true then (some false) else ((floats_LessEq.f a0 a1).bind fun t155 => ((foundryref01_LessEq.f k a0 a1).bind fun t156 => (if t155 = true then (if t156 = true then ((floats_Compare.f a0 a1).bind fun t157 => ((foundryref01_Compare.f k a0 a1).bind fun t158 => (if t157 = t158 then ((foundrylaw01_alive.f k).bind fun t159 => (some t159)) else (some false)))) else (some false)) else (if t156 = true then (some false) else ((floats_Compare.f a0 a1).bind fun t160 => ((foundryref01_Compare.f k a0 a1).bind fun t161 => (if t160 = t161 then ((foundrylaw01_alive.f k).bind fun t162 => (some t162)) else (some false))))))))))) = some r := H
      have A7 := Aside0.mk A70
      clear A70
      replace H := Option.bind_eq_some_iff.mp H
      obtain ⟨t146, A80, H⟩ := H
      replace H : (if t145 = true then (if t146 = true then ((floats_LessEq.f a0 a1).bind fun t147 => ((foundryref01_LessEq.f k a0 a1).bind fun t148 => (if t147 = true then (if t148 = true then ((floats_Compare.f a0 a1).bind fun t149 => ((foundryref01_Compare.f k a0 a1).bind fun t150 => (if t149 = t150 then ((foundrylaw01_alive.f k).bind fun t151 => (some t151)) else (some false)))) else (some false)) else (if t148 = true then (some false) else ((floats_Compare.f a0 a1).bind fun t152 => ((foundryref01_Compare.f k a0 a1).bind fun t153 => (if t152 = t153 then ((foundrylaw01_alive.f k).bind fun t154 => (some t154)) else (some false)))))))) else (some false)) else (if t146 = true then (some false) else ((floats_LessEq.f a0 a1).bind fun t155 => ((foundryref01_LessEq.f k a0 a1).bind fun t156 => (if t155 = true then (if t156 = true then ((floats_Compare.f a0 a1).bind fun t157 => ((foundryref01_Compare.f k a0 a1).bind fun t158 => (if t157 = t158 then ((foundrylaw01_alive.f k).bind fun t159 => (some t159)) else (some false)))) else (some false)) else (if t156 = true then (some false) else ((floats_Compare.f a0 a1).bind fun t160 => ((foundryref01_Compare.f k a0 a1).bind fun t161 => (if t160 = t161 then ((foundrylaw01_alive.f k).bind fun t162 => (some t162)) else (some false)))))))))) = some r := H
      have A8 := Aside0.mk A80
      clear A80
      by_cases c9 : t145 = true
      · subst c9
        have H1 : (if t146 = true then ((floats_LessEq.f a0 a1).bind fun t147 => ((foundryref01_LessEq.f k a0 a1).bind fun t148 => (if t147 = true then (if t148 = true then ((floats_Compare.f a0 a1).bind fun t149 => ((foundryref01_Compare.f k a0 a1).bind fun t150 => (if t149 = t150 then ((foundrylaw01_alive.f k).bind fun t151 => (some t151)) else (some false)))) else (some false)) else (if t148 = true then (some false) else ((floats_Compare.f a0 a1).bind fun t152 => ((foundryref01_Compare.f k a0 a1).bind fun t153 => (if t152 = t153 then ((foundrylaw01_alive.f k).bind fun t154 => (some t154)) else (some false)))))))) else (some false)) = some r := by rw [if_pos rfl] at H; exact H
        clear H
        have H := H1
        clear H1
        by_cases c10 : t146 = true
        · subst c10
          have H1 : ((floats_LessEq.f a0 a1).bind fun t147 => ((foundryref01_LessEq.f k a0 a1).bind fun t148 => (if t147 = true then (if t148 = true then ((floats_Compare.f a0 a1).bind fun t149 => ((foundryref01_Compare.f k a0 a1).bind fun t150 => (if t149 = t150 then ((foundrylaw01_alive.f k).bind fun t151 => (some t151)) else (some false)))) else (some false)) else (if t148 = true then (some false) else ((floats_Compare.f a0 a1).bind fun t152 => ((foundryref01_Compare.f k a0 a1).bind fun t153 => (if t152 = t153 then ((foundrylaw01_alive.f k).bind fun t154 => (some t154)) else (some false)))))))) = some r := by rw [if_pos rfl] at H; exact H
          clear H
          have H := H1
          clear H1
          replace H := Option.bind_eq_some_iff.mp H
          obtain ⟨t147, A110, H⟩ := H
          replace H : ((foundryref01_LessEq.f k a0 a1).bind fun t148 => (if t147 = true then (if t148 = true then ((floats_Compare.f a0 a1).bind fun t149 => ((foundryref01_Compare.f k a0 a1).bind fun t150 => (if t149 = t150 then ((foundrylaw01_alive.f k).bind fun t151 => (some t151)) else (some false)))) else (some false)) else (if t148 = true then (some false) else ((floats_Compare.f a0 a1).bind fun t152 => ((foundryref01_Compare.f k a0 a1).bind fun t153 => (if t152 = t153 then ((foundrylaw01_alive.f k).bind fun t154 => (some t154)) else (some false))))))) = some r := H
          have A11 := Aside0.mk A110
          clear A110
          replace H := Option.bind_eq_some_iff.mp H
          obtain ⟨t148, A120, H⟩ := H
          replace H : (if t147 = true then (if t148 = true then ((floats_Compare.f a0 a1).bind fun t149 => ((foundryref01_Compare.f k a0 a1).bind fun t150 => (if t149 = t150 then ((foundrylaw01_alive.f k).bind fun t151 => (some t151)) else (some false)))) else (some false)) else (if t148 = true then (some false) else ((floats_Compare.f a0 a1).bind fun t152 => ((foundryref01_Compare.f k a0 a1).bind fun t153 => (if t152 = t153 then ((foundrylaw01_alive.f k).bind fun t154 => (some t154)) else (some false)))))) = some r := H
          have A12 := Aside0.mk A120
          clear A120
          by_cases c13 : t147 = true
          · subst c13
            have H1 : (if t148 = true then ((floats_Compare.f a0 a1).bind fun t149 => ((foundryref01_Compare.f k a0 a1).bind fun t150 => (if t149 = t150 then ((foundrylaw01_alive.f k).bind fun t151 => (some t151)) else (some false)))) else (some false)) = some r := by rw [if_pos rfl] at H; exact H
            clear H
            have H := H1
            clear H1
            by_cases c14 : t148 = true
            · subst c14
              have H1 : ((floats_Compare.f a0 a1).bind fun t149 => ((foundryref01_Compare.f k a0 a1).bind fun t150 => (if t149 = t150 then ((foundrylaw01_alive.f k).bind fun t151 => (some t151)) else (some false)))) = some r := by rw [if_pos rfl] at H; exact H
              clear H
              have H := H1
              clear H1
              replace H := Option.bind_eq_some_iff.mp H
              obtain ⟨t149, A150, H⟩ := H
              replace H : ((foundryref01_Compare.f k a0 a1).bind fun t150 => (if t149 = t150 then ((foundrylaw01_alive.f k).bind fun t151 => (some t151)) else (some false))) = some r := H
              have A15 := Aside0.mk A150
              clear A150
              replace H := Option.bind_eq_some_iff.mp H
              obtain ⟨t150, A160, H⟩ := H
              replace H : (if t149 = t150 then ((foundrylaw01_alive.f k).bind fun t151 => (some t151)) else (some false)) = some r := H
              have A16 := Aside0.mk A160
              clear A160
              by_cases c17 : t149 = t150
              · rw [if_pos c17] at H
                have c17b0 : (t149 == t150) = true := beq_iff_eq.mpr c17
                have c17b1 : (t149 != t150) = false := bne_eq_false_iff_eq.mpr c17
                clear c17
                replace H := Option.bind_eq_some_iff.mp H
                obtain ⟨t151, A180, H⟩ := H
                replace H : (some t151) = some r := H
                have A18 := Aside0.mk A180
                clear A180
                obtain rfl := Option.some.inj H
                go_enter Tryd.func3, Tryd.ntmps3
                go_wp2_with (first | ((with_reducible refine gate_callee (f := 10) rfl ?_); refine goesL_ (some 7) rfl rfl Tryd.func10 (by kernel_rfl) rfl #[.int .u64 a0, .int .u64 a1] rfl (by (try simp only [List.map_toArray, List.map_cons, List.map_nil]); first | done | rfl | (simp only [List.length_drop, List.length_take]; rfl)) ?_; (with_reducible refine (floats_Equal.calls a0 a1 true _ A3.out).mono ?_); rintro e w19 ⟨rfl, hb⟩; refine ⟨_, rfl, ?_⟩; have n0_ := Aside0.mk (below_step (by repeat (first | (with_reducible first | exact HB.out | apply below_alloc | apply pw_below_drewN | apply below_drew1) | exact HB.out)) hb); clear HB; have HB := n0_; clear n0_; (try clear hb); (try clear hb2); (try clear hk); (try clear hi)) | ((with_reducible refine gate_callee (f := 11) rfl ?_); refine goesL_ (some 10) rfl rfl Tryd.func11 (by kernel_rfl) rfl #[.int .u64 a0, .int .u64 a1] rfl (by (try simp only [List.map_toArray, List.map_cons, List.map_nil]); first | done | rfl | (simp only [List.length_drop, List.length_take]; rfl)) ?_; (with_reducible refine (foundryref01_Equal.calls k a0 a1 true _ A4.out).mono ?_); rintro e w' ⟨rfl, ⟨nd, rfl⟩⟩; refine ⟨_, rfl, ?_⟩) | (go_at_call 12; (with_reducible refine (floats_Less.calls a0 a1 true _ A7.out).mono ?_); rintro e w20 ⟨rfl, hb⟩; have n0_ := Aside0.mk (below_step (by repeat (first | (with_reducible first | exact HB.out | apply below_alloc | apply pw_below_drewN | apply below_drew1) | exact HB.out)) hb); clear HB; have HB := n0_; clear n0_; (try clear hb); (try clear hb2); (try clear hk); (try clear hi)) | (go_at_call 13; (with_reducible refine (foundryref01_Less.calls k a0 a1 true _ A8.out).mono ?_); rintro e w' ⟨rfl, ⟨nd, rfl⟩⟩) | (go_at_call 14; (with_reducible refine (floats_LessEq.calls a0 a1 true _ A11.out).mono ?_); rintro e w21 ⟨rfl, hb⟩; have n0_ := Aside0.mk (below_step (by repeat (first | (with_reducible first | exact HB.out | apply below_alloc | apply pw_below_drewN | apply below_drew1) | exact HB.out)) hb); clear HB; have HB := n0_; clear n0_; (try clear hb); (try clear hb2); (try clear hk); (try clear hi)) | (go_at_call 15; (with_reducible refine (foundryref01_LessEq.calls k a0 a1 true _ A12.out).mono ?_); rintro e w' ⟨rfl, ⟨nd, rfl⟩⟩) | (go_at_call 16; (with_reducible refine (floats_Compare.calls a0 a1 t149 _ A15.out).mono ?_); rintro e w' ⟨rfl, ⟨nd, rfl⟩⟩) | (go_at_call 17; (with_reducible refine (foundryref01_Compare.calls k a0 a1 t150 _ A16.out).mono ?_); rintro e w' ⟨rfl, ⟨nd, rfl⟩⟩) | (go_at_call 18; (with_reducible refine (foundrylaw01_alive.calls k  t151 _ A18.out).mono ?_); rintro e w22 ⟨rfl, hb⟩; have n0_ := Aside0.mk (below_step (by repeat (first | (with_reducible first | exact HB.out | apply below_alloc | apply pw_below_drewN | apply below_drew1) | exact HB.out)) hb); clear HB; have HB := n0_; clear n0_; (try clear hb); (try clear hb2); (try clear hk); (try clear hi)))
                go_ret
                exact ⟨by first | rfl | (simp [errW_none, errW_some] <;> rfl) | (simp [*, errW_none, errW_some] <;> rfl), by repeat (first | (with_reducible first | exact HB.out | apply below_alloc | apply pw_below_drewN | apply below_drew1) | exact HB.out)⟩
              · rw [if_neg c17] at H
                have c17b0 : (t149 == t150) = false := beq_eq_false_iff_ne.mpr c17
                have c17b1 : (t149 != t150) = true := bne_iff_ne.mpr c17
                obtain rfl := Option.some.inj H
                go_enter Tryd.func3, Tryd.ntmps3
                go_wp2_with (first | ((with_reducible refine gate_callee (f := 10) rfl ?_); refine goesL_ (some 7) rfl rfl Tryd.func10 (by kernel_rfl) rfl #[.int .u64 a0, .int .u64 a1] rfl (by (try simp only [List.map_toArray, List.map_cons, List.map_nil]); first | done | rfl | (simp only [List.length_drop, List.length_take]; rfl)) ?_; (with_reducible refine (floats_Equal.calls a0 a1 true _ A3.out).mono ?_); rintro e w23 ⟨rfl, hb⟩; refine ⟨_, rfl, ?_⟩; have n0_ := Aside0.mk (below_step (by repeat (first | (with_reducible first | exact HB.out | apply below_alloc | apply pw_below_drewN | apply below_drew1) | exact HB.out)) hb); clear HB; have HB := n0_; clear n0_; (try clear hb); (try clear hb2); (try clear hk); (try clear hi)) | ((with_reducible refine gate_callee (f := 11) rfl ?_); refine goesL_ (some 10) rfl rfl Tryd.func11 (by kernel_rfl) rfl #[.int .u64 a0, .int .u64 a1] rfl (by (try simp only [List.map_toArray, List.map_cons, List.map_nil]); first | done | rfl | (simp only [List.length_drop, List.length_take]; rfl)) ?_; (with_reducible refine (foundryref01_Equal.calls k a0 a1 true _ A4.out).mono ?_); rintro e w' ⟨rfl, ⟨nd, rfl⟩⟩; refine ⟨_, rfl, ?_⟩) | (go_at_call 12; (with_reducible refine (floats_Less.calls a0 a1 true _ A7.out).mono ?_); rintro e w24 ⟨rfl, hb⟩; have n0_ := Aside0.mk (below_step (by repeat (first | (with_reducible first | exact HB.out | apply below_alloc | apply pw_below_drewN | apply below_drew1) | exact HB.out)) hb); clear HB; have HB := n0_; clear n0_; (try clear hb); (try clear hb2); (try clear hk); (try clear hi)) | (go_at_call 13; (with_reducible refine (foundryref01_Less.calls k a0 a1 true _ A8.out).mono ?_); rintro e w' ⟨rfl, ⟨nd, rfl⟩⟩) | (go_at_call 14; (with_reducible refine (floats_LessEq.calls a0 a1 true _ A11.out).mono ?_); rintro e w25 ⟨rfl, hb⟩; have n0_ := Aside0.mk (below_step (by repeat (first | (with_reducible first | exact HB.out | apply below_alloc | apply pw_below_drewN | apply below_drew1) | exact HB.out)) hb); clear HB; have HB := n0_; clear n0_; (try clear hb); (try clear hb2); (try clear hk); (try clear hi)) | (go_at_call 15; (with_reducible refine (foundryref01_LessEq.calls k a0 a1 true _ A12.out).mono ?_); rintro e w' ⟨rfl, ⟨nd, rfl⟩⟩) | (go_at_call 16; (with_reducible refine (floats_Compare.calls a0 a1 t149 _ A15.out).mono ?_); rintro e w' ⟨rfl, ⟨nd, rfl⟩⟩) | (go_at_call 17; (with_reducible refine (foundryref01_Compare.calls k a0 a1 t150 _ A16.out).mono ?_); rintro e w' ⟨rfl, ⟨nd, rfl⟩⟩))
                go_ret
                exact ⟨by first | rfl | (simp [errW_none, errW_some] <;> rfl) | (simp [*, errW_none, errW_some] <;> rfl), by repeat (first | (with_reducible first | exact HB.out | apply below_alloc | apply pw_below_drewN | apply below_drew1) | exact HB.out)⟩
            · replace c14 := Bool.eq_false_iff.mpr c14
              subst c14
              have H1 : (some false) = some r := by rw [if_neg (show ¬ (false = true) by decide)] at H; exact H
              clear H
              have H := H1
              clear H1
              obtain rfl := Option.some.inj H
              go_enter Tryd.func3, Tryd.ntmps3
              go_wp2_with (first | ((with_reducible refine gate_callee (f := 10) rfl ?_); refine goesL_ (some 7) rfl rfl Tryd.func10 (by kernel_rfl) rfl #[.int .u64 a0, .int .u64 a1] rfl (by (try simp only [List.map_toArray, List.map_cons, List.map_nil]); first | done | rfl | (simp only [List.length_drop, List.length_take]; rfl)) ?_; (with_reducible refine (floats_Equal.calls a0 a1 true _ A3.out).mono ?_); rintro e w26 ⟨rfl, hb⟩; refine ⟨_, rfl, ?_⟩; have n0_ := Aside0.mk (below_step (by repeat (first | (with_reducible first | exact HB.out | apply below_alloc | apply pw_below_drewN | apply below_drew1) | exact HB.out)) hb); clear HB; have HB := n0_; clear n0_; (try clear hb); (try clear hb2); (try clear hk); (try clear hi)) | ((with_reducible refine gate_callee (f := 11) rfl ?_); refine goesL_ (some 10) rfl rfl Tryd.func11 (by kernel_rfl) rfl #[.int .u64 a0, .int .u64 a1] rfl (by (try simp only [List.map_toArray, List.map_cons, List.map_nil]); first | done | rfl | (simp only [List.length_drop, List.length_take]; rfl)) ?_; (with_reducible refine (foundryref01_Equal.calls k a0 a1 true _ A4.out).mono ?_); rintro e w' ⟨rfl, ⟨nd, rfl⟩⟩; refine ⟨_, rfl, ?_⟩) | (go_at_call 12; (with_reducible refine (floats_Less.calls a0 a1 true _ A7.out).mono ?_); rintro e w27 ⟨rfl, hb⟩; have n0_ := Aside0.mk (below_step (by repeat (first | (with_reducible first | exact HB.out | apply below_alloc | apply pw_below_drewN | apply below_drew1) | exact HB.out)) hb); clear HB; have HB := n0_; clear n0_; (try clear hb); (try clear hb2); (try clear hk); (try clear hi)) | (go_at_call 13; (with_reducible refine (foundryref01_Less.calls k a0 a1 true _ A8.out).mono ?_); rintro e w' ⟨rfl, ⟨nd, rfl⟩⟩) | (go_at_call 14; (with_reducible refine (floats_LessEq.calls a0 a1 true _ A11.out).mono ?_); rintro e w28 ⟨rfl, hb⟩; have n0_ := Aside0.mk (below_step (by repeat (first | (with_reducible first | exact HB.out | apply below_alloc | apply pw_below_drewN | apply below_drew1) | exact HB.out)) hb); clear HB; have HB := n0_; clear n0_; (try clear hb); (try clear hb2); (try clear hk); (try clear hi)) | (go_at_call 15; (with_reducible refine (foundryref01_LessEq.calls k a0 a1 false _ A12.out).mono ?_); rintro e w' ⟨rfl, ⟨nd, rfl⟩⟩))
              go_ret
              exact ⟨by first | rfl | (simp [errW_none, errW_some] <;> rfl) | (simp [*, errW_none, errW_some] <;> rfl), by repeat (first | (with_reducible first | exact HB.out | apply below_alloc | apply pw_below_drewN | apply below_drew1) | exact HB.out)⟩
          · replace c13 := Bool.eq_false_iff.mpr c13
            subst c13
            have H1 : (if t148 = true then (some false) else ((floats_Compare.f a0 a1).bind fun t152 => ((foundryref01_Compare.f k a0 a1).bind fun t153 => (if t152 = t153 then ((foundrylaw01_alive.f k).bind fun t154 => (some t154)) else (some false))))) = some r := by rw [if_neg (show ¬ (false = true) by decide)] at H; exact H
            clear H
            have H := H1
            clear H1
            by_cases c29 : t148 = true
            · subst c29
              have H1 : (some false) = some r := by rw [if_pos rfl] at H; exact H
              clear H
              have H := H1
              clear H1
              obtain rfl := Option.some.inj H
              go_enter Tryd.func3, Tryd.ntmps3
              go_wp2_with (first | ((with_reducible refine gate_callee (f := 10) rfl ?_); refine goesL_ (some 7) rfl rfl Tryd.func10 (by kernel_rfl) rfl #[.int .u64 a0, .int .u64 a1] rfl (by (try simp only [List.map_toArray, List.map_cons, List.map_nil]); first | done | rfl | (simp only [List.length_drop, List.length_take]; rfl)) ?_; (with_reducible refine (floats_Equal.calls a0 a1 true _ A3.out).mono ?_); rintro e w30 ⟨rfl, hb⟩; refine ⟨_, rfl, ?_⟩; have n0_ := Aside0.mk (below_step (by repeat (first | (with_reducible first | exact HB.out | apply below_alloc | apply pw_below_drewN | apply below_drew1) | exact HB.out)) hb); clear HB; have HB := n0_; clear n0_; (try clear hb); (try clear hb2); (try clear hk); (try clear hi)) | ((with_reducible refine gate_callee (f := 11) rfl ?_); refine goesL_ (some 10) rfl rfl Tryd.func11 (by kernel_rfl) rfl #[.int .u64 a0, .int .u64 a1] rfl (by (try simp only [List.map_toArray, List.map_cons, List.map_nil]); first | done | rfl | (simp only [List.length_drop, List.length_take]; rfl)) ?_; (with_reducible refine (foundryref01_Equal.calls k a0 a1 true _ A4.out).mono ?_); rintro e w' ⟨rfl, ⟨nd, rfl⟩⟩; refine ⟨_, rfl, ?_⟩) | (go_at_call 12; (with_reducible refine (floats_Less.calls a0 a1 true _ A7.out).mono ?_); rintro e w31 ⟨rfl, hb⟩; have n0_ := Aside0.mk (below_step (by repeat (first | (with_reducible first | exact HB.out | apply below_alloc | apply pw_below_drewN | apply below_drew1) | exact HB.out)) hb); clear HB; have HB := n0_; clear n0_; (try clear hb); (try clear hb2); (try clear hk); (try clear hi)) | (go_at_call 13; (with_reducible refine (foundryref01_Less.calls k a0 a1 true _ A8.out).mono ?_); rintro e w' ⟨rfl, ⟨nd, rfl⟩⟩) | (go_at_call 14; (with_reducible refine (floats_LessEq.calls a0 a1 false _ A11.out).mono ?_); rintro e w32 ⟨rfl, hb⟩; have n0_ := Aside0.mk (below_step (by repeat (first | (with_reducible first | exact HB.out | apply below_alloc | apply pw_below_drewN | apply below_drew1) | exact HB.out)) hb); clear HB; have HB := n0_; clear n0_; (try clear hb); (try clear hb2); (try clear hk); (try clear hi)) | (go_at_call 15; (with_reducible refine (foundryref01_LessEq.calls k a0 a1 true _ A12.out).mono ?_); rintro e w' ⟨rfl, ⟨nd, rfl⟩⟩))
              go_ret
              exact ⟨by first | rfl | (simp [errW_none, errW_some] <;> rfl) | (simp [*, errW_none, errW_some] <;> rfl), by repeat (first | (with_reducible first | exact HB.out | apply below_alloc | apply pw_below_drewN | apply below_drew1) | exact HB.out)⟩
            · replace c29 := Bool.eq_false_iff.mpr c29
              subst c29
              have H1 : ((floats_Compare.f a0 a1).bind fun t152 => ((foundryref01_Compare.f k a0 a1).bind fun t153 => (if t152 = t153 then ((foundrylaw01_alive.f k).bind fun t154 => (some t154)) else (some false)))) = some r := by rw [if_neg (show ¬ (false = true) by decide)] at H; exact H
              clear H
              have H := H1
              clear H1
              replace H := Option.bind_eq_some_iff.mp H
              obtain ⟨t152, A330, H⟩ := H
              replace H : ((foundryref01_Compare.f k a0 a1).bind fun t153 => (if t152 = t153 then ((foundrylaw01_alive.f k).bind fun t154 => (some t154)) else (some false))) = some r := H
              have A33 := Aside0.mk A330
              clear A330
              replace H := Option.bind_eq_some_iff.mp H
              obtain ⟨t153, A340, H⟩ := H
              replace H : (if t152 = t153 then ((foundrylaw01_alive.f k).bind fun t154 => (some t154)) else (some false)) = some r := H
              have A34 := Aside0.mk A340
              clear A340
              by_cases c35 : t152 = t153
              · rw [if_pos c35] at H
                have c35b0 : (t152 == t153) = true := beq_iff_eq.mpr c35
                have c35b1 : (t152 != t153) = false := bne_eq_false_iff_eq.mpr c35
                clear c35
                replace H := Option.bind_eq_some_iff.mp H
                obtain ⟨t154, A360, H⟩ := H
                replace H : (some t154) = some r := H
                have A36 := Aside0.mk A360
                clear A360
                obtain rfl := Option.some.inj H
                go_enter Tryd.func3, Tryd.ntmps3
                go_wp2_with (first | ((with_reducible refine gate_callee (f := 10) rfl ?_); refine goesL_ (some 7) rfl rfl Tryd.func10 (by kernel_rfl) rfl #[.int .u64 a0, .int .u64 a1] rfl (by (try simp only [List.map_toArray, List.map_cons, List.map_nil]); first | done | rfl | (simp only [List.length_drop, List.length_take]; rfl)) ?_; (with_reducible refine (floats_Equal.calls a0 a1 true _ A3.out).mono ?_); rintro e w37 ⟨rfl, hb⟩; refine ⟨_, rfl, ?_⟩; have n0_ := Aside0.mk (below_step (by repeat (first | (with_reducible first | exact HB.out | apply below_alloc | apply pw_below_drewN | apply below_drew1) | exact HB.out)) hb); clear HB; have HB := n0_; clear n0_; (try clear hb); (try clear hb2); (try clear hk); (try clear hi)) | ((with_reducible refine gate_callee (f := 11) rfl ?_); refine goesL_ (some 10) rfl rfl Tryd.func11 (by kernel_rfl) rfl #[.int .u64 a0, .int .u64 a1] rfl (by (try simp only [List.map_toArray, List.map_cons, List.map_nil]); first | done | rfl | (simp only [List.length_drop, List.length_take]; rfl)) ?_; (with_reducible refine (foundryref01_Equal.calls k a0 a1 true _ A4.out).mono ?_); rintro e w' ⟨rfl, ⟨nd, rfl⟩⟩; refine ⟨_, rfl, ?_⟩) | (go_at_call 12; (with_reducible refine (floats_Less.calls a0 a1 true _ A7.out).mono ?_); rintro e w38 ⟨rfl, hb⟩; have n0_ := Aside0.mk (below_step (by repeat (first | (with_reducible first | exact HB.out | apply below_alloc | apply pw_below_drewN | apply below_drew1) | exact HB.out)) hb); clear HB; have HB := n0_; clear n0_; (try clear hb); (try clear hb2); (try clear hk); (try clear hi)) | (go_at_call 13; (with_reducible refine (foundryref01_Less.calls k a0 a1 true _ A8.out).mono ?_); rintro e w' ⟨rfl, ⟨nd, rfl⟩⟩) | (go_at_call 14; (with_reducible refine (floats_LessEq.calls a0 a1 false _ A11.out).mono ?_); rintro e w39 ⟨rfl, hb⟩; have n0_ := Aside0.mk (below_step (by repeat (first | (with_reducible first | exact HB.out | apply below_alloc | apply pw_below_drewN | apply below_drew1) | exact HB.out)) hb); clear HB; have HB := n0_; clear n0_; (try clear hb); (try clear hb2); (try clear hk); (try clear hi)) | (go_at_call 15; (with_reducible refine (foundryref01_LessEq.calls k a0 a1 false _ A12.out).mono ?_); rintro e w' ⟨rfl, ⟨nd, rfl⟩⟩) | (go_at_call 16; (with_reducible refine (floats_Compare.calls a0 a1 t152 _ A33.out).mono ?_); rintro e w' ⟨rfl, ⟨nd, rfl⟩⟩) | (go_at_call 17; (with_reducible refine (foundryref01_Compare.calls k a0 a1 t153 _ A34.out).mono ?_); rintro e w' ⟨rfl, ⟨nd, rfl⟩⟩) | (go_at_call 18; (with_reducible refine (foundrylaw01_alive.calls k  t154 _ A36.out).mono ?_); rintro e w40 ⟨rfl, hb⟩; have n0_ := Aside0.mk (below_step (by repeat (first | (with_reducible first | exact HB.out | apply below_alloc | apply pw_below_drewN | apply below_drew1) | exact HB.out)) hb); clear HB; have HB := n0_; clear n0_; (try clear hb); (try clear hb2); (try clear hk); (try clear hi)))
                go_ret
                exact ⟨by first | rfl | (simp [errW_none, errW_some] <;> rfl) | (simp [*, errW_none, errW_some] <;> rfl), by repeat (first | (with_reducible first | exact HB.out | apply below_alloc | apply pw_below_drewN | apply below_drew1) | exact HB.out)⟩
              · rw [if_neg c35] at H
                have c35b0 : (t152 == t153) = false := beq_eq_false_iff_ne.mpr c35
                have c35b1 : (t152 != t153) = true := bne_iff_ne.mpr c35
                obtain rfl := Option.some.inj H
                go_enter Tryd.func3, Tryd.ntmps3
                go_wp2_with (first | ((with_reducible refine gate_callee (f := 10) rfl ?_); refine goesL_ (some 7) rfl rfl Tryd.func10 (by kernel_rfl) rfl #[.int .u64 a0, .int .u64 a1] rfl (by (try simp only [List.map_toArray, List.map_cons, List.map_nil]); first | done | rfl | (simp only [List.length_drop, List.length_take]; rfl)) ?_; (with_reducible refine (floats_Equal.calls a0 a1 true _ A3.out).mono ?_); rintro e w41 ⟨rfl, hb⟩; refine ⟨_, rfl, ?_⟩; have n0_ := Aside0.mk (below_step (by repeat (first | (with_reducible first | exact HB.out | apply below_alloc | apply pw_below_drewN | apply below_drew1) | exact HB.out)) hb); clear HB; have HB := n0_; clear n0_; (try clear hb); (try clear hb2); (try clear hk); (try clear hi)) | ((with_reducible refine gate_callee (f := 11) rfl ?_); refine goesL_ (some 10) rfl rfl Tryd.func11 (by kernel_rfl) rfl #[.int .u64 a0, .int .u64 a1] rfl (by (try simp only [List.map_toArray, List.map_cons, List.map_nil]); first | done | rfl | (simp only [List.length_drop, List.length_take]; rfl)) ?_; (with_reducible refine (foundryref01_Equal.calls k a0 a1 true _ A4.out).mono ?_); rintro e w' ⟨rfl, ⟨nd, rfl⟩⟩; refine ⟨_, rfl, ?_⟩) | (go_at_call 12; (with_reducible refine (floats_Less.calls a0 a1 true _ A7.out).mono ?_); rintro e w42 ⟨rfl, hb⟩; have n0_ := Aside0.mk (below_step (by repeat (first | (with_reducible first | exact HB.out | apply below_alloc | apply pw_below_drewN | apply below_drew1) | exact HB.out)) hb); clear HB; have HB := n0_; clear n0_; (try clear hb); (try clear hb2); (try clear hk); (try clear hi)) | (go_at_call 13; (with_reducible refine (foundryref01_Less.calls k a0 a1 true _ A8.out).mono ?_); rintro e w' ⟨rfl, ⟨nd, rfl⟩⟩) | (go_at_call 14; (with_reducible refine (floats_LessEq.calls a0 a1 false _ A11.out).mono ?_); rintro e w43 ⟨rfl, hb⟩; have n0_ := Aside0.mk (below_step (by repeat (first | (with_reducible first | exact HB.out | apply below_alloc | apply pw_below_drewN | apply below_drew1) | exact HB.out)) hb); clear HB; have HB := n0_; clear n0_; (try clear hb); (try clear hb2); (try clear hk); (try clear hi)) | (go_at_call 15; (with_reducible refine (foundryref01_LessEq.calls k a0 a1 false _ A12.out).mono ?_); rintro e w' ⟨rfl, ⟨nd, rfl⟩⟩) | (go_at_call 16; (with_reducible refine (floats_Compare.calls a0 a1 t152 _ A33.out).mono ?_); rintro e w' ⟨rfl, ⟨nd, rfl⟩⟩) | (go_at_call 17; (with_reducible refine (foundryref01_Compare.calls k a0 a1 t153 _ A34.out).mono ?_); rintro e w' ⟨rfl, ⟨nd, rfl⟩⟩))
                go_ret
                exact ⟨by first | rfl | (simp [errW_none, errW_some] <;> rfl) | (simp [*, errW_none, errW_some] <;> rfl), by repeat (first | (with_reducible first | exact HB.out | apply below_alloc | apply pw_below_drewN | apply below_drew1) | exact HB.out)⟩
        · replace c10 := Bool.eq_false_iff.mpr c10
          subst c10
          have H1 : (some false) = some r := by rw [if_neg (show ¬ (false = true) by decide)] at H; exact H
          clear H
          have H := H1
          clear H1
          obtain rfl := Option.some.inj H
          go_enter Tryd.func3, Tryd.ntmps3
          go_wp2_with (first | ((with_reducible refine gate_callee (f := 10) rfl ?_); refine goesL_ (some 7) rfl rfl Tryd.func10 (by kernel_rfl) rfl #[.int .u64 a0, .int .u64 a1] rfl (by (try simp only [List.map_toArray, List.map_cons, List.map_nil]); first | done | rfl | (simp only [List.length_drop, List.length_take]; rfl)) ?_; (with_reducible refine (floats_Equal.calls a0 a1 true _ A3.out).mono ?_); rintro e w44 ⟨rfl, hb⟩; refine ⟨_, rfl, ?_⟩; have n0_ := Aside0.mk (below_step (by repeat (first | (with_reducible first | exact HB.out | apply below_alloc | apply pw_below_drewN | apply below_drew1) | exact HB.out)) hb); clear HB; have HB := n0_; clear n0_; (try clear hb); (try clear hb2); (try clear hk); (try clear hi)) | ((with_reducible refine gate_callee (f := 11) rfl ?_); refine goesL_ (some 10) rfl rfl Tryd.func11 (by kernel_rfl) rfl #[.int .u64 a0, .int .u64 a1] rfl (by (try simp only [List.map_toArray, List.map_cons, List.map_nil]); first | done | rfl | (simp only [List.length_drop, List.length_take]; rfl)) ?_; (with_reducible refine (foundryref01_Equal.calls k a0 a1 true _ A4.out).mono ?_); rintro e w' ⟨rfl, ⟨nd, rfl⟩⟩; refine ⟨_, rfl, ?_⟩) | (go_at_call 12; (with_reducible refine (floats_Less.calls a0 a1 true _ A7.out).mono ?_); rintro e w45 ⟨rfl, hb⟩; have n0_ := Aside0.mk (below_step (by repeat (first | (with_reducible first | exact HB.out | apply below_alloc | apply pw_below_drewN | apply below_drew1) | exact HB.out)) hb); clear HB; have HB := n0_; clear n0_; (try clear hb); (try clear hb2); (try clear hk); (try clear hi)) | (go_at_call 13; (with_reducible refine (foundryref01_Less.calls k a0 a1 false _ A8.out).mono ?_); rintro e w' ⟨rfl, ⟨nd, rfl⟩⟩))
          go_ret
          exact ⟨by first | rfl | (simp [errW_none, errW_some] <;> rfl) | (simp [*, errW_none, errW_some] <;> rfl), by repeat (first | (with_reducible first | exact HB.out | apply below_alloc | apply pw_below_drewN | apply below_drew1) | exact HB.out)⟩
      · replace c9 := Bool.eq_false_iff.mpr c9
        subst c9
        have H1 : (if t146 = true then (some false) else ((floats_LessEq.f a0 a1).bind fun t155 => ((foundryref01_LessEq.f k a0 a1).bind fun t156 => (if t155 = true then (if t156 = true then ((floats_Compare.f a0 a1).bind fun t157 => ((foundryref01_Compare.f k a0 a1).bind fun t158 => (if t157 = t158 then ((foundrylaw01_alive.f k).bind fun t159 => (some t159)) else (some false)))) else (some false)) else (if t156 = true then (some false) else ((floats_Compare.f a0 a1).bind fun t160 => ((foundryref01_Compare.f k a0 a1).bind fun t161 => (if t160 = t161 then ((foundrylaw01_alive.f k).bind fun t162 => (some t162)) else (some false))))))))) = some r := by rw [if_neg (show ¬ (false = true) by decide)] at H; exact H
        clear H
        have H := H1
        clear H1
        by_cases c46 : t146 = true
        · subst c46
          have H1 : (some false) = some r := by rw [if_pos rfl] at H; exact H
          clear H
          have H := H1
          clear H1
          obtain rfl := Option.some.inj H
          go_enter Tryd.func3, Tryd.ntmps3
          go_wp2_with (first | ((with_reducible refine gate_callee (f := 10) rfl ?_); refine goesL_ (some 7) rfl rfl Tryd.func10 (by kernel_rfl) rfl #[.int .u64 a0, .int .u64 a1] rfl (by (try simp only [List.map_toArray, List.map_cons, List.map_nil]); first | done | rfl | (simp only [List.length_drop, List.length_take]; rfl)) ?_; (with_reducible refine (floats_Equal.calls a0 a1 true _ A3.out).mono ?_); rintro e w47 ⟨rfl, hb⟩; refine ⟨_, rfl, ?_⟩; have n0_ := Aside0.mk (below_step (by repeat (first | (with_reducible first | exact HB.out | apply below_alloc | apply pw_below_drewN | apply below_drew1) | exact HB.out)) hb); clear HB; have HB := n0_; clear n0_; (try clear hb); (try clear hb2); (try clear hk); (try clear hi)) | ((with_reducible refine gate_callee (f := 11) rfl ?_); refine goesL_ (some 10) rfl rfl Tryd.func11 (by kernel_rfl) rfl #[.int .u64 a0, .int .u64 a1] rfl (by (try simp only [List.map_toArray, List.map_cons, List.map_nil]); first | done | rfl | (simp only [List.length_drop, List.length_take]; rfl)) ?_; (with_reducible refine (foundryref01_Equal.calls k a0 a1 true _ A4.out).mono ?_); rintro e w' ⟨rfl, ⟨nd, rfl⟩⟩; refine ⟨_, rfl, ?_⟩) | (go_at_call 12; (with_reducible refine (floats_Less.calls a0 a1 false _ A7.out).mono ?_); rintro e w48 ⟨rfl, hb⟩; have n0_ := Aside0.mk (below_step (by repeat (first | (with_reducible first | exact HB.out | apply below_alloc | apply pw_below_drewN | apply below_drew1) | exact HB.out)) hb); clear HB; have HB := n0_; clear n0_; (try clear hb); (try clear hb2); (try clear hk); (try clear hi)) | (go_at_call 13; (with_reducible refine (foundryref01_Less.calls k a0 a1 true _ A8.out).mono ?_); rintro e w' ⟨rfl, ⟨nd, rfl⟩⟩))
          go_ret
          exact ⟨by first | rfl | (simp [errW_none, errW_some] <;> rfl) | (simp [*, errW_none, errW_some] <;> rfl), by repeat (first | (with_reducible first | exact HB.out | apply below_alloc | apply pw_below_drewN | apply below_drew1) | exact HB.out)⟩
        · replace c46 := Bool.eq_false_iff.mpr c46
          subst c46
          have H1 : ((floats_LessEq.f a0 a1).bind fun t155 => ((foundryref01_LessEq.f k a0 a1).bind fun t156 => (if t155 = true then (if t156 = true then ((floats_Compare.f a0 a1).bind fun t157 => ((foundryref01_Compare.f k a0 a1).bind fun t158 => (if t157 = t158 then ((foundrylaw01_alive.f k).bind fun t159 => (some t159)) else (some false)))) else (some false)) else (if t156 = true then (some false) else ((floats_Compare.f a0 a1).bind fun t160 => ((foundryref01_Compare.f k a0 a1).bind fun t161 => (if t160 = t161 then ((foundrylaw01_alive.f k).bind fun t162 => (some t162)) else (some false)))))))) = some r := by rw [if_neg (show ¬ (false = true) by decide)] at H; exact H
          clear H
          have H := H1
          clear H1
          replace H := Option.bind_eq_some_iff.mp H
          obtain ⟨t155, A490, H⟩ := H
          replace H : ((foundryref01_LessEq.f k a0 a1).bind fun t156 => (if t155 = true then (if t156 = true then ((floats_Compare.f a0 a1).bind fun t157 => ((foundryref01_Compare.f k a0 a1).bind fun t158 => (if t157 = t158 then ((foundrylaw01_alive.f k).bind fun t159 => (some t159)) else (some false)))) else (some false)) else (if t156 = true then (some false) else ((floats_Compare.f a0 a1).bind fun t160 => ((foundryref01_Compare.f k a0 a1).bind fun t161 => (if t160 = t161 then ((foundrylaw01_alive.f k).bind fun t162 => (some t162)) else (some false))))))) = some r := H
          have A49 := Aside0.mk A490
          clear A490
          replace H := Option.bind_eq_some_iff.mp H
          obtain ⟨t156, A500, H⟩ := H
          replace H : (if t155 = true then (if t156 = true then ((floats_Compare.f a0 a1).bind fun t157 => ((foundryref01_Compare.f k a0 a1).bind fun t158 => (if t157 = t158 then ((foundrylaw01_alive.f k).bind fun t159 => (some t159)) else (some false)))) else (some false)) else (if t156 = true then (some false) else ((floats_Compare.f a0 a1).bind fun t160 => ((foundryref01_Compare.f k a0 a1).bind fun t161 => (if t160 = t161 then ((foundrylaw01_alive.f k).bind fun t162 => (some t162)) else (some false)))))) = some r := H
          have A50 := Aside0.mk A500
          clear A500
          by_cases c51 : t155 = true
          · subst c51
            have H1 : (if t156 = true then ((floats_Compare.f a0 a1).bind fun t157 => ((foundryref01_Compare.f k a0 a1).bind fun t158 => (if t157 = t158 then ((foundrylaw01_alive.f k).bind fun t159 => (some t159)) else (some false)))) else (some false)) = some r := by rw [if_pos rfl] at H; exact H
            clear H
            have H := H1
            clear H1
            by_cases c52 : t156 = true
            · subst c52
              have H1 : ((floats_Compare.f a0 a1).bind fun t157 => ((foundryref01_Compare.f k a0 a1).bind fun t158 => (if t157 = t158 then ((foundrylaw01_alive.f k).bind fun t159 => (some t159)) else (some false)))) = some r := by rw [if_pos rfl] at H; exact H
              clear H
              have H := H1
              clear H1
              replace H := Option.bind_eq_some_iff.mp H
              obtain ⟨t157, A530, H⟩ := H
              replace H : ((foundryref01_Compare.f k a0 a1).bind fun t158 => (if t157 = t158 then ((foundrylaw01_alive.f k).bind fun t159 => (some t159)) else (some false))) = some r := H
              have A53 := Aside0.mk A530
              clear A530
              replace H := Option.bind_eq_some_iff.mp H
              obtain ⟨t158, A540, H⟩ := H
              replace H : (if t157 = t158 then ((foundrylaw01_alive.f k).bind fun t159 => (some t159)) else (some false)) = some r := H
              have A54 := Aside0.mk A540
              clear A540
              by_cases c55 : t157 = t158
              · rw [if_pos c55] at H
                have c55b0 : (t157 == t158) = true := beq_iff_eq.mpr c55
                have c55b1 : (t157 != t158) = false := bne_eq_false_iff_eq.mpr c55
                clear c55
                replace H := Option.bind_eq_some_iff.mp H
                obtain ⟨t159, A560, H⟩ := H
                replace H : (some t159) = some r := H
                have A56 := Aside0.mk A560
                clear A560
                obtain rfl := Option.some.inj H
                go_enter Tryd.func3, Tryd.ntmps3
                go_wp2_with (first | ((with_reducible refine gate_callee (f := 10) rfl ?_); refine goesL_ (some 7) rfl rfl Tryd.func10 (by kernel_rfl) rfl #[.int .u64 a0, .int .u64 a1] rfl (by (try simp only [List.map_toArray, List.map_cons, List.map_nil]); first | done | rfl | (simp only [List.length_drop, List.length_take]; rfl)) ?_; (with_reducible refine (floats_Equal.calls a0 a1 true _ A3.out).mono ?_); rintro e w57 ⟨rfl, hb⟩; refine ⟨_, rfl, ?_⟩; have n0_ := Aside0.mk (below_step (by repeat (first | (with_reducible first | exact HB.out | apply below_alloc | apply pw_below_drewN | apply below_drew1) | exact HB.out)) hb); clear HB; have HB := n0_; clear n0_; (try clear hb); (try clear hb2); (try clear hk); (try clear hi)) | ((with_reducible refine gate_callee (f := 11) rfl ?_); refine goesL_ (some 10) rfl rfl Tryd.func11 (by kernel_rfl) rfl #[.int .u64 a0, .int .u64 a1] rfl (by (try simp only [List.map_toArray, List.map_cons, List.map_nil]); first | done | rfl | (simp only [List.length_drop, List.length_take]; rfl)) ?_; (with_reducible refine (foundryref01_Equal.calls k a0 a1 true _ A4.out).mono ?_); rintro e w' ⟨rfl, ⟨nd, rfl⟩⟩; refine ⟨_, rfl, ?_⟩) | (go_at_call 12; (with_reducible refine (floats_Less.calls a0 a1 false _ A7.out).mono ?_); rintro e w58 ⟨rfl, hb⟩; have n0_ := Aside0.mk (below_step (by repeat (first | (with_reducible first | exact HB.out | apply below_alloc | apply pw_below_drewN | apply below_drew1) | exact HB.out)) hb); clear HB; have HB := n0_; clear n0_; (try clear hb); (try clear hb2); (try clear hk); (try clear hi)) | (go_at_call 13; (with_reducible refine (foundryref01_Less.calls k a0 a1 false _ A8.out).mono ?_); rintro e w' ⟨rfl, ⟨nd, rfl⟩⟩) | (go_at_call 14; (with_reducible refine (floats_LessEq.calls a0 a1 true _ A49.out).mono ?_); rintro e w59 ⟨rfl, hb⟩; have n0_ := Aside0.mk (below_step (by repeat (first | (with_reducible first | exact HB.out | apply below_alloc | apply pw_below_drewN | apply below_drew1) | exact HB.out)) hb); clear HB; have HB := n0_; clear n0_; (try clear hb); (try clear hb2); (try clear hk); (try clear hi)) | (go_at_call 15; (with_reducible refine (foundryref01_LessEq.calls k a0 a1 true _ A50.out).mono ?_); rintro e w' ⟨rfl, ⟨nd, rfl⟩⟩) | (go_at_call 16; (with_reducible refine (floats_Compare.calls a0 a1 t157 _ A53.out).mono ?_); rintro e w' ⟨rfl, ⟨nd, rfl⟩⟩) | (go_at_call 17; (with_reducible refine (foundryref01_Compare.calls k a0 a1 t158 _ A54.out).mono ?_); rintro e w' ⟨rfl, ⟨nd, rfl⟩⟩) | (go_at_call 18; (with_reducible refine (foundrylaw01_alive.calls k  t159 _ A56.out).mono ?_); rintro e w60 ⟨rfl, hb⟩; have n0_ := Aside0.mk (below_step (by repeat (first | (with_reducible first | exact HB.out | apply below_alloc | apply pw_below_drewN | apply below_drew1) | exact HB.out)) hb); clear HB; have HB := n0_; clear n0_; (try clear hb); (try clear hb2); (try clear hk); (try clear hi)))
                go_ret
                exact ⟨by first | rfl | (simp [errW_none, errW_some] <;> rfl) | (simp [*, errW_none, errW_some] <;> rfl), by repeat (first | (with_reducible first | exact HB.out | apply below_alloc | apply pw_below_drewN | apply below_drew1) | exact HB.out)⟩
              · rw [if_neg c55] at H
                have c55b0 : (t157 == t158) = false := beq_eq_false_iff_ne.mpr c55
                have c55b1 : (t157 != t158) = true := bne_iff_ne.mpr c55
                obtain rfl := Option.some.inj H
                go_enter Tryd.func3, Tryd.ntmps3
                go_wp2_with (first | ((with_reducible refine gate_callee (f := 10) rfl ?_); refine goesL_ (some 7) rfl rfl Tryd.func10 (by kernel_rfl) rfl #[.int .u64 a0, .int .u64 a1] rfl (by (try simp only [List.map_toArray, List.map_cons, List.map_nil]); first | done | rfl | (simp only [List.length_drop, List.length_take]; rfl)) ?_; (with_reducible refine (floats_Equal.calls a0 a1 true _ A3.out).mono ?_); rintro e w61 ⟨rfl, hb⟩; refine ⟨_, rfl, ?_⟩; have n0_ := Aside0.mk (below_step (by repeat (first | (with_reducible first | exact HB.out | apply below_alloc | apply pw_below_drewN | apply below_drew1) | exact HB.out)) hb); clear HB; have HB := n0_; clear n0_; (try clear hb); (try clear hb2); (try clear hk); (try clear hi)) | ((with_reducible refine gate_callee (f := 11) rfl ?_); refine goesL_ (some 10) rfl rfl Tryd.func11 (by kernel_rfl) rfl #[.int .u64 a0, .int .u64 a1] rfl (by (try simp only [List.map_toArray, List.map_cons, List.map_nil]); first | done | rfl | (simp only [List.length_drop, List.length_take]; rfl)) ?_; (with_reducible refine (foundryref01_Equal.calls k a0 a1 true _ A4.out).mono ?_); rintro e w' ⟨rfl, ⟨nd, rfl⟩⟩; refine ⟨_, rfl, ?_⟩) | (go_at_call 12; (with_reducible refine (floats_Less.calls a0 a1 false _ A7.out).mono ?_); rintro e w62 ⟨rfl, hb⟩; have n0_ := Aside0.mk (below_step (by repeat (first | (with_reducible first | exact HB.out | apply below_alloc | apply pw_below_drewN | apply below_drew1) | exact HB.out)) hb); clear HB; have HB := n0_; clear n0_; (try clear hb); (try clear hb2); (try clear hk); (try clear hi)) | (go_at_call 13; (with_reducible refine (foundryref01_Less.calls k a0 a1 false _ A8.out).mono ?_); rintro e w' ⟨rfl, ⟨nd, rfl⟩⟩) | (go_at_call 14; (with_reducible refine (floats_LessEq.calls a0 a1 true _ A49.out).mono ?_); rintro e w63 ⟨rfl, hb⟩; have n0_ := Aside0.mk (below_step (by repeat (first | (with_reducible first | exact HB.out | apply below_alloc | apply pw_below_drewN | apply below_drew1) | exact HB.out)) hb); clear HB; have HB := n0_; clear n0_; (try clear hb); (try clear hb2); (try clear hk); (try clear hi)) | (go_at_call 15; (with_reducible refine (foundryref01_LessEq.calls k a0 a1 true _ A50.out).mono ?_); rintro e w' ⟨rfl, ⟨nd, rfl⟩⟩) | (go_at_call 16; (with_reducible refine (floats_Compare.calls a0 a1 t157 _ A53.out).mono ?_); rintro e w' ⟨rfl, ⟨nd, rfl⟩⟩) | (go_at_call 17; (with_reducible refine (foundryref01_Compare.calls k a0 a1 t158 _ A54.out).mono ?_); rintro e w' ⟨rfl, ⟨nd, rfl⟩⟩))
                go_ret
                exact ⟨by first | rfl | (simp [errW_none, errW_some] <;> rfl) | (simp [*, errW_none, errW_some] <;> rfl), by repeat (first | (with_reducible first | exact HB.out | apply below_alloc | apply pw_below_drewN | apply below_drew1) | exact HB.out)⟩
            · replace c52 := Bool.eq_false_iff.mpr c52
              subst c52
              have H1 : (some false) = some r := by rw [if_neg (show ¬ (false = true) by decide)] at H; exact H
              clear H
              have H := H1
              clear H1
              obtain rfl := Option.some.inj H
              go_enter Tryd.func3, Tryd.ntmps3
              go_wp2_with (first | ((with_reducible refine gate_callee (f := 10) rfl ?_); refine goesL_ (some 7) rfl rfl Tryd.func10 (by kernel_rfl) rfl #[.int .u64 a0, .int .u64 a1] rfl (by (try simp only [List.map_toArray, List.map_cons, List.map_nil]); first | done | rfl | (simp only [List.length_drop, List.length_take]; rfl)) ?_; (with_reducible refine (floats_Equal.calls a0 a1 true _ A3.out).mono ?_); rintro e w64 ⟨rfl, hb⟩; refine ⟨_, rfl, ?_⟩; have n0_ := Aside0.mk (below_step (by repeat (first | (with_reducible first | exact HB.out | apply below_alloc | apply pw_below_drewN | apply below_drew1) | exact HB.out)) hb); clear HB; have HB := n0_; clear n0_; (try clear hb); (try clear hb2); (try clear hk); (try clear hi)) | ((with_reducible refine gate_callee (f := 11) rfl ?_); refine goesL_ (some 10) rfl rfl Tryd.func11 (by kernel_rfl) rfl #[.int .u64 a0, .int .u64 a1] rfl (by (try simp only [List.map_toArray, List.map_cons, List.map_nil]); first | done | rfl | (simp only [List.length_drop, List.length_take]; rfl)) ?_; (with_reducible refine (foundryref01_Equal.calls k a0 a1 true _ A4.out).mono ?_); rintro e w' ⟨rfl, ⟨nd, rfl⟩⟩; refine ⟨_, rfl, ?_⟩) | (go_at_call 12; (with_reducible refine (floats_Less.calls a0 a1 false _ A7.out).mono ?_); rintro e w65 ⟨rfl, hb⟩; have n0_ := Aside0.mk (below_step (by repeat (first | (with_reducible first | exact HB.out | apply below_alloc | apply pw_below_drewN | apply below_drew1) | exact HB.out)) hb); clear HB; have HB := n0_; clear n0_; (try clear hb); (try clear hb2); (try clear hk); (try clear hi)) | (go_at_call 13; (with_reducible refine (foundryref01_Less.calls k a0 a1 false _ A8.out).mono ?_); rintro e w' ⟨rfl, ⟨nd, rfl⟩⟩) | (go_at_call 14; (with_reducible refine (floats_LessEq.calls a0 a1 true _ A49.out).mono ?_); rintro e w66 ⟨rfl, hb⟩; have n0_ := Aside0.mk (below_step (by repeat (first | (with_reducible first | exact HB.out | apply below_alloc | apply pw_below_drewN | apply below_drew1) | exact HB.out)) hb); clear HB; have HB := n0_; clear n0_; (try clear hb); (try clear hb2); (try clear hk); (try clear hi)) | (go_at_call 15; (with_reducible refine (foundryref01_LessEq.calls k a0 a1 false _ A50.out).mono ?_); rintro e w' ⟨rfl, ⟨nd, rfl⟩⟩))
              go_ret
              exact ⟨by first | rfl | (simp [errW_none, errW_some] <;> rfl) | (simp [*, errW_none, errW_some] <;> rfl), by repeat (first | (with_reducible first | exact HB.out | apply below_alloc | apply pw_below_drewN | apply below_drew1) | exact HB.out)⟩
          · replace c51 := Bool.eq_false_iff.mpr c51
            subst c51
            have H1 : (if t156 = true then (some false) else ((floats_Compare.f a0 a1).bind fun t160 => ((foundryref01_Compare.f k a0 a1).bind fun t161 => (if t160 = t161 then ((foundrylaw01_alive.f k).bind fun t162 => (some t162)) else (some false))))) = some r := by rw [if_neg (show ¬ (false = true) by decide)] at H; exact H
            clear H
            have H := H1
            clear H1
            by_cases c67 : t156 = true
            · subst c67
              have H1 : (some false) = some r := by rw [if_pos rfl] at H; exact H
              clear H
              have H := H1
              clear H1
              obtain rfl := Option.some.inj H
              go_enter Tryd.func3, Tryd.ntmps3
              go_wp2_with (first | ((with_reducible refine gate_callee (f := 10) rfl ?_); refine goesL_ (some 7) rfl rfl Tryd.func10 (by kernel_rfl) rfl #[.int .u64 a0, .int .u64 a1] rfl (by (try simp only [List.map_toArray, List.map_cons, List.map_nil]); first | done | rfl | (simp only [List.length_drop, List.length_take]; rfl)) ?_; (with_reducible refine (floats_Equal.calls a0 a1 true _ A3.out).mono ?_); rintro e w68 ⟨rfl, hb⟩; refine ⟨_, rfl, ?_⟩; have n0_ := Aside0.mk (below_step (by repeat (first | (with_reducible first | exact HB.out | apply below_alloc | apply pw_below_drewN | apply below_drew1) | exact HB.out)) hb); clear HB; have HB := n0_; clear n0_; (try clear hb); (try clear hb2); (try clear hk); (try clear hi)) | ((with_reducible refine gate_callee (f := 11) rfl ?_); refine goesL_ (some 10) rfl rfl Tryd.func11 (by kernel_rfl) rfl #[.int .u64 a0, .int .u64 a1] rfl (by (try simp only [List.map_toArray, List.map_cons, List.map_nil]); first | done | rfl | (simp only [List.length_drop, List.length_take]; rfl)) ?_; (with_reducible refine (foundryref01_Equal.calls k a0 a1 true _ A4.out).mono ?_); rintro e w' ⟨rfl, ⟨nd, rfl⟩⟩; refine ⟨_, rfl, ?_⟩) | (go_at_call 12; (with_reducible refine (floats_Less.calls a0 a1 false _ A7.out).mono ?_); rintro e w69 ⟨rfl, hb⟩; have n0_ := Aside0.mk (below_step (by repeat (first | (with_reducible first | exact HB.out | apply below_alloc | apply pw_below_drewN | apply below_drew1) | exact HB.out)) hb); clear HB; have HB := n0_; clear n0_; (try clear hb); (try clear hb2); (try clear hk); (try clear hi)) | (go_at_call 13; (with_reducible refine (foundryref01_Less.calls k a0 a1 false _ A8.out).mono ?_); rintro e w' ⟨rfl, ⟨nd, rfl⟩⟩) | (go_at_call 14; (with_reducible refine (floats_LessEq.calls a0 a1 false _ A49.out).mono ?_); rintro e w70 ⟨rfl, hb⟩; have n0_ := Aside0.mk (below_step (by repeat (first | (with_reducible first | exact HB.out | apply below_alloc | apply pw_below_drewN | apply below_drew1) | exact HB.out)) hb); clear HB; have HB := n0_; clear n0_; (try clear hb); (try clear hb2); (try clear hk); (try clear hi)) | (go_at_call 15; (with_reducible refine (foundryref01_LessEq.calls k a0 a1 true _ A50.out).mono ?_); rintro e w' ⟨rfl, ⟨nd, rfl⟩⟩))
              go_ret
              exact ⟨by first | rfl | (simp [errW_none, errW_some] <;> rfl) | (simp [*, errW_none, errW_some] <;> rfl), by repeat (first | (with_reducible first | exact HB.out | apply below_alloc | apply pw_below_drewN | apply below_drew1) | exact HB.out)⟩
            · replace c67 := Bool.eq_false_iff.mpr c67
              subst c67
              have H1 : ((floats_Compare.f a0 a1).bind fun t160 => ((foundryref01_Compare.f k a0 a1).bind fun t161 => (if t160 = t161 then ((foundrylaw01_alive.f k).bind fun t162 => (some t162)) else (some false)))) = some r := by rw [if_neg (show ¬ (false = true) by decide)] at H; exact H
              clear H
              have H := H1
              clear H1
              replace H := Option.bind_eq_some_iff.mp H
              obtain ⟨t160, A710, H⟩ := H
              replace H : ((foundryref01_Compare.f k a0 a1).bind fun t161 => (if t160 = t161 then ((foundrylaw01_alive.f k).bind fun t162 => (some t162)) else (some false))) = some r := H
              have A71 := Aside0.mk A710
              clear A710
              replace H := Option.bind_eq_some_iff.mp H
              obtain ⟨t161, A720, H⟩ := H
              replace H : (if t160 = t161 then ((foundrylaw01_alive.f k).bind fun t162 => (some t162)) else (some false)) = some r := H
              have A72 := Aside0.mk A720
              clear A720
              by_cases c73 : t160 = t161
              · rw [if_pos c73] at H
                have c73b0 : (t160 == t161) = true := beq_iff_eq.mpr c73
                have c73b1 : (t160 != t161) = false := bne_eq_false_iff_eq.mpr c73
                clear c73
                replace H := Option.bind_eq_some_iff.mp H
                obtain ⟨t162, A740, H⟩ := H
                replace H : (some t162) = some r := H
                have A74 := Aside0.mk A740
                clear A740
                obtain rfl := Option.some.inj H
                go_enter Tryd.func3, Tryd.ntmps3
                go_wp2_with (first | ((with_reducible refine gate_callee (f := 10) rfl ?_); refine goesL_ (some 7) rfl rfl Tryd.func10 (by kernel_rfl) rfl #[.int .u64 a0, .int .u64 a1] rfl (by (try simp only [List.map_toArray, List.map_cons, List.map_nil]); first | done | rfl | (simp only [List.length_drop, List.length_take]; rfl)) ?_; (with_reducible refine (floats_Equal.calls a0 a1 true _ A3.out).mono ?_); rintro e w75 ⟨rfl, hb⟩; refine ⟨_, rfl, ?_⟩; have n0_ := Aside0.mk (below_step (by repeat (first | (with_reducible first | exact HB.out | apply below_alloc | apply pw_below_drewN | apply below_drew1) | exact HB.out)) hb); clear HB; have HB := n0_; clear n0_; (try clear hb); (try clear hb2); (try clear hk); (try clear hi)) | ((with_reducible refine gate_callee (f := 11) rfl ?_); refine goesL_ (some 10) rfl rfl Tryd.func11 (by kernel_rfl) rfl #[.int .u64 a0, .int .u64 a1] rfl (by (try simp only [List.map_toArray, List.map_cons, List.map_nil]); first | done | rfl | (simp only [List.length_drop, List.length_take]; rfl)) ?_; (with_reducible refine (foundryref01_Equal.calls k a0 a1 true _ A4.out).mono ?_); rintro e w' ⟨rfl, ⟨nd, rfl⟩⟩; refine ⟨_, rfl, ?_⟩) | (go_at_call 12; (with_reducible refine (floats_Less.calls a0 a1 false _ A7.out).mono ?_); rintro e w76 ⟨rfl, hb⟩; have n0_ := Aside0.mk (below_step (by repeat (first | (with_reducible first | exact HB.out | apply below_alloc | apply pw_below_drewN | apply below_drew1) | exact HB.out)) hb); clear HB; have HB := n0_; clear n0_; (try clear hb); (try clear hb2); (try clear hk); (try clear hi)) | (go_at_call 13; (with_reducible refine (foundryref01_Less.calls k a0 a1 false _ A8.out).mono ?_); rintro e w' ⟨rfl, ⟨nd, rfl⟩⟩) | (go_at_call 14; (with_reducible refine (floats_LessEq.calls a0 a1 false _ A49.out).mono ?_); rintro e w77 ⟨rfl, hb⟩; have n0_ := Aside0.mk (below_step (by repeat (first | (with_reducible first | exact HB.out | apply below_alloc | apply pw_below_drewN | apply below_drew1) | exact HB.out)) hb); clear HB; have HB := n0_; clear n0_; (try clear hb); (try clear hb2); (try clear hk); (try clear hi)) | (go_at_call 15; (with_reducible refine (foundryref01_LessEq.calls k a0 a1 false _ A50.out).mono ?_); rintro e w' ⟨rfl, ⟨nd, rfl⟩⟩) | (go_at_call 16; (with_reducible refine (floats_Compare.calls a0 a1 t160 _ A71.out).mono ?_); rintro e w' ⟨rfl, ⟨nd, rfl⟩⟩) | (go_at_call 17; (with_reducible refine (foundryref01_Compare.calls k a0 a1 t161 _ A72.out).mono ?_); rintro e w' ⟨rfl, ⟨nd, rfl⟩⟩) | (go_at_call 18; (with_reducible refine (foundrylaw01_alive.calls k  t162 _ A74.out).mono ?_); rintro e w78 ⟨rfl, hb⟩; have n0_ := Aside0.mk (below_step (by repeat (first | (with_reducible first | exact HB.out | apply below_alloc | apply pw_below_drewN | apply below_drew1) | exact HB.out)) hb); clear HB; have HB := n0_; clear n0_; (try clear hb); (try clear hb2); (try clear hk); (try clear hi)))
                go_ret
                exact ⟨by first | rfl | (simp [errW_none, errW_some] <;> rfl) | (simp [*, errW_none, errW_some] <;> rfl), by repeat (first | (with_reducible first | exact HB.out | apply below_alloc | apply pw_below_drewN | apply below_drew1) | exact HB.out)⟩
              · rw [if_neg c73] at H
                have c73b0 : (t160 == t161) = false := beq_eq_false_iff_ne.mpr c73
                have c73b1 : (t160 != t161) = true := bne_iff_ne.mpr c73
                obtain rfl := Option.some.inj H
                go_enter Tryd.func3, Tryd.ntmps3
                go_wp2_with (first | ((with_reducible refine gate_callee (f := 10) rfl ?_); refine goesL_ (some 7) rfl rfl Tryd.func10 (by kernel_rfl) rfl #[.int .u64 a0, .int .u64 a1] rfl (by (try simp only [List.map_toArray, List.map_cons, List.map_nil]); first | done | rfl | (simp only [List.length_drop, List.length_take]; rfl)) ?_; (with_reducible refine (floats_Equal.calls a0 a1 true _ A3.out).mono ?_); rintro e w79 ⟨rfl, hb⟩; refine ⟨_, rfl, ?_⟩; have n0_ := Aside0.mk (below_step (by repeat (first | (with_reducible first | exact HB.out | apply below_alloc | apply pw_below_drewN | apply below_drew1) | exact HB.out)) hb); clear HB; have HB := n0_; clear n0_; (try clear hb); (try clear hb2); (try clear hk); (try clear hi)) | ((with_reducible refine gate_callee (f := 11) rfl ?_); refine goesL_ (some 10) rfl rfl Tryd.func11 (by kernel_rfl) rfl #[.int .u64 a0, .int .u64 a1] rfl (by (try simp only [List.map_toArray, List.map_cons, List.map_nil]); first | done | rfl | (simp only [List.length_drop, List.length_take]; rfl)) ?_; (with_reducible refine (foundryref01_Equal.calls k a0 a1 true _ A4.out).mono ?_); rintro e w' ⟨rfl, ⟨nd, rfl⟩⟩; refine ⟨_, rfl, ?_⟩) | (go_at_call 12; (with_reducible refine (floats_Less.calls a0 a1 false _ A7.out).mono ?_); rintro e w80 ⟨rfl, hb⟩; have n0_ := Aside0.mk (below_step (by repeat (first | (with_reducible first | exact HB.out | apply below_alloc | apply pw_below_drewN | apply below_drew1) | exact HB.out)) hb); clear HB; have HB := n0_; clear n0_; (try clear hb); (try clear hb2); (try clear hk); (try clear hi)) | (go_at_call 13; (with_reducible refine (foundryref01_Less.calls k a0 a1 false _ A8.out).mono ?_); rintro e w' ⟨rfl, ⟨nd, rfl⟩⟩) | (go_at_call 14; (with_reducible refine (floats_LessEq.calls a0 a1 false _ A49.out).mono ?_); rintro e w81 ⟨rfl, hb⟩; have n0_ := Aside0.mk (below_step (by repeat (first | (with_reducible first | exact HB.out | apply below_alloc | apply pw_below_drewN | apply below_drew1) | exact HB.out)) hb); clear HB; have HB := n0_; clear n0_; (try clear hb); (try clear hb2); (try clear hk); (try clear hi)) | (go_at_call 15; (with_reducible refine (foundryref01_LessEq.calls k a0 a1 false _ A50.out).mono ?_); rintro e w' ⟨rfl, ⟨nd, rfl⟩⟩) | (go_at_call 16; (with_reducible refine (floats_Compare.calls a0 a1 t160 _ A71.out).mono ?_); rintro e w' ⟨rfl, ⟨nd, rfl⟩⟩) | (go_at_call 17; (with_reducible refine (foundryref01_Compare.calls k a0 a1 t161 _ A72.out).mono ?_); rintro e w' ⟨rfl, ⟨nd, rfl⟩⟩))
                go_ret
                exact ⟨by first | rfl | (simp [errW_none, errW_some] <;> rfl) | (simp [*, errW_none, errW_some] <;> rfl), by repeat (first | (with_reducible first | exact HB.out | apply below_alloc | apply pw_below_drewN | apply below_drew1) | exact HB.out)⟩
    · replace c6 := Bool.eq_false_iff.mpr c6
      subst c6
      have H1 : (some false) = some r := by rw [if_neg (show ¬ (false = true) by decide)] at H; exact H
      clear H
      have H := H1
      clear H1
      obtain rfl := Option.some.inj H
      go_enter Tryd.func3, Tryd.ntmps3
      go_wp2_with (first | ((with_reducible refine gate_callee (f := 10) rfl ?_); refine goesL_ (some 7) rfl rfl Tryd.func10 (by kernel_rfl) rfl #[.int .u64 a0, .int .u64 a1] rfl (by (try simp only [List.map_toArray, List.map_cons, List.map_nil]); first | done | rfl | (simp only [List.length_drop, List.length_take]; rfl)) ?_; (with_reducible refine (floats_Equal.calls a0 a1 true _ A3.out).mono ?_); rintro e w82 ⟨rfl, hb⟩; refine ⟨_, rfl, ?_⟩; have n0_ := Aside0.mk (below_step (by repeat (first | (with_reducible first | exact HB.out | apply below_alloc | apply pw_below_drewN | apply below_drew1) | exact HB.out)) hb); clear HB; have HB := n0_; clear n0_; (try clear hb); (try clear hb2); (try clear hk); (try clear hi)) | ((with_reducible refine gate_callee (f := 11) rfl ?_); refine goesL_ (some 10) rfl rfl Tryd.func11 (by kernel_rfl) rfl #[.int .u64 a0, .int .u64 a1] rfl (by (try simp only [List.map_toArray, List.map_cons, List.map_nil]); first | done | rfl | (simp only [List.length_drop, List.length_take]; rfl)) ?_; (with_reducible refine (foundryref01_Equal.calls k a0 a1 false _ A4.out).mono ?_); rintro e w' ⟨rfl, ⟨nd, rfl⟩⟩; refine ⟨_, rfl, ?_⟩))
      go_ret
      exact ⟨by first | rfl | (simp [errW_none, errW_some] <;> rfl) | (simp [*, errW_none, errW_some] <;> rfl), by repeat (first | (with_reducible first | exact HB.out | apply below_alloc | apply pw_below_drewN | apply below_drew1) | exact HB.out)⟩
  · replace c5 := Bool.eq_false_iff.mpr c5
    subst c5
    have H1 : (if t144 = true then (some false) else ((floats_Less.f a0 a1).bind fun t163 => ((foundryref01_Less.f k a0 a1).bind fun t164 => (if t163 = true then (if t164 = true then ((floats_LessEq.f a0 a1).bind fun t165 => ((foundryref01_LessEq.f k a0 a1).bind fun t166 => (if t165 = true then (if t166 = true then ((floats_Compare.f a0 a1).bind fun t167 => ((foundryref01_Compare.f k a0 a1).bind fun t168 => (if t167 = t168 then ((foundrylaw01_alive.f k).bind fun t169 => (some t169)) else (some false)))) else (some false)) else (if t166 = true then (some false) else ((floats_Compare.f a0 a1).bind fun t170 => ((foundryref01_Compare.f k a0 a1).bind fun t171 => (if t170 = t171 then ((foundrylaw01_alive.f k).bind fun t172 => (some t172)) else (some false)))))))) else (some false)) else (if t164 = true then (some false) else ((floats_LessEq.f a0 a1).bind fun t173 => ((foundryref01_LessEq.f k a0 a1).bind fun t174 => (if t173 = true then (if t174 = true then ((floats_Compare.f a0 a1).bind fun t175 => ((foundryref01_Compare.f k a0 a1).bind fun t176 => (if t175 = t176 then ((foundrylaw01_alive.f k).bind fun t177 => (some t177)) else (some false)))) else (some false)) else (if t174 = true then (some false) else ((floats_Compare.f a0 a1).bind fun t178 => ((foundryref01_Compare.f k a0 a1).bind fun t179 => (if t178 = t179 then ((foundrylaw01_alive.f k).bind fun t180 => (some t180)) else (some false))))))))))))) = some r := by rw [if_neg (show ¬ (false = true) by decide)] at H; exact H
    clear H
    have H := H1
    clear H1
    by_cases c83 : t144 = true
    · subst c83
      have H1 : (some false) = some r := by rw [if_pos rfl] at H; exact H
      clear H
      have H := H1
      clear H1
      obtain rfl := Option.some.inj H
      go_enter Tryd.func3, Tryd.ntmps3
      go_wp2_with (first | ((with_reducible refine gate_callee (f := 10) rfl ?_); refine goesL_ (some 7) rfl rfl Tryd.func10 (by kernel_rfl) rfl #[.int .u64 a0, .int .u64 a1] rfl (by (try simp only [List.map_toArray, List.map_cons, List.map_nil]); first | done | rfl | (simp only [List.length_drop, List.length_take]; rfl)) ?_; (with_reducible refine (floats_Equal.calls a0 a1 false _ A3.out).mono ?_); rintro e w84 ⟨rfl, hb⟩; refine ⟨_, rfl, ?_⟩; have n0_ := Aside0.mk (below_step (by repeat (first | (with_reducible first | exact HB.out | apply below_alloc | apply pw_below_drewN | apply below_drew1) | exact HB.out)) hb); clear HB; have HB := n0_; clear n0_; (try clear hb); (try clear hb2); (try clear hk); (try clear hi)) | ((with_reducible refine gate_callee (f := 11) rfl ?_); refine goesL_ (some 10) rfl rfl Tryd.func11 (by kernel_rfl) rfl #[.int .u64 a0, .int .u64 a1] rfl (by (try simp only [List.map_toArray, List.map_cons, List.map_nil]); first | done | rfl | (simp only [List.length_drop, List.length_take]; rfl)) ?_; (with_reducible refine (foundryref01_Equal.calls k a0 a1 true _ A4.out).mono ?_); rintro e w' ⟨rfl, ⟨nd, rfl⟩⟩; refine ⟨_, rfl, ?_⟩))
      go_ret
      exact ⟨by first | rfl | (simp [errW_none, errW_some] <;> rfl) | (simp [*, errW_none, errW_some] <;> rfl), by repeat (first | (with_reducible first | exact HB.out | apply below_alloc | apply pw_below_drewN | apply below_drew1) | exact HB.out)⟩
    · replace c83 := Bool.eq_false_iff.mpr c83
      subst c83
      have H1 : ((floats_Less.f a0 a1).bind fun t163 => ((foundryref01_Less.f k a0 a1).bind fun t164 => (if t163 = true then (if t164 = true then ((floats_LessEq.f a0 a1).bind fun t165 => ((foundryref01_LessEq.f k a0 a1).bind fun t166 => (if t165 = true then (if t166 = true then ((floats_Compare.f a0 a1).bind fun t167 => ((foundryref01_Compare.f k a0 a1).bind fun t168 => (if t167 = t168 then ((foundrylaw01_alive.f k).bind fun t169 => (some t169)) else (some false)))) else (some false)) else (if t166 = true then (some false) else ((floats_Compare.f a0 a1).bind fun t170 => ((foundryref01_Compare.f k a0 a1).bind fun t171 => (if t170 = t171 then ((foundrylaw01_alive.f k).bind fun t172 => (some t172)) else (some false)))))))) else (some false)) else (if t164 = true then (some false) else ((floats_LessEq.f a0 a1).bind fun t173 => ((foundryref01_LessEq.f k a0 a1).bind fun t174 => (if t173 = true then (if t174 = true then ((floats_Compare.f a0 a1).bind fun t175 => ((foundryref01_Compare.f k a0 a1).bind fun t176 => (if t175 = t176 then ((foundrylaw01_alive.f k).bind fun t177 => (some t177)) else (some false)))) else (some false)) else (if t174 = true then (some false) else ((floats_Compare.f a0 a1).bind fun t178 => ((foundryref01_Compare.f k a0 a1).bind fun t179 => (if t178 = t179 then ((foundrylaw01_alive.f k).bind fun t180 => (some t180)) else (some false)))))))))))) = some r := by rw [if_neg (show ¬ (false = true) by decide)] at H; exact H
      clear H
      have H := H1
      clear H1
      replace H := Option.bind_eq_some_iff.mp H
      obtain ⟨t163, A850, H⟩ := H
      replace H : ((foundryref01_Less.f k a0 a1).bind fun t164 => (if t163 = true then (if t164 = true then ((floats_LessEq.f a0 a1).bind fun t165 => ((foundryref01_LessEq.f k a0 a1).bind fun t166 => (if t165 = true then (if t166 = true then ((floats_Compare.f a0 a1).bind fun t167 => ((foundryref01_Compare.f k a0 a1).bind fun t168 => (if t167 = t168 then ((foundrylaw01_alive.f k).bind fun t169 => (some t169)) else (some false)))) else (some false)) else (if t166 = true then (some false) else ((floats_Compare.f a0 a1).bind fun t170 => ((foundryref01_Compare.f k a0 a1).bind fun t171 => (if t170 = t171 then ((foundrylaw01_alive.f k).bind fun t172 => (some t172)) else (some false)))))))) else (some false)) else (if t164 = true then (some false) else ((floats_LessEq.f a0 a1).bind fun t173 => ((foundryref01_LessEq.f k a0 a1).bind fun t174 => (if t173 = true then (if t174 = true then ((floats_Compare.f a0 a1).bind fun t175 => ((foundryref01_Compare.f k a0 a1).bind fun t176 => (if t175 = t176 then ((foundrylaw01_alive.f k).bind fun t177 => (some t177)) else (some false)))) else (some false)) else (if t174 = true then (some false) else ((floats_Compare.f a0 a1).bind fun t178 => ((foundryref01_Compare.f k a0 a1).bind fun t179 => (if t178 = t179 then ((foundrylaw01_alive.f k).bind fun t180 => (some t180)) else (some false))))))))))) = some r := H
      have A85 := Aside0.mk A850
      clear A850
      replace H := Option.bind_eq_some_iff.mp H
      obtain ⟨t164, A860, H⟩ := H
      replace H : (if t163 = true then (if t164 = true then ((floats_LessEq.f a0 a1).bind fun t165 => ((foundryref01_LessEq.f k a0 a1).bind fun t166 => (if t165 = true then (if t166 = true then ((floats_Compare.f a0 a1).bind fun t167 => ((foundryref01_Compare.f k a0 a1).bind fun t168 => (if t167 = t168 then ((foundrylaw01_alive.f k).bind fun t169 => (some t169)) else (some false)))) else (some false)) else (if t166 = true then (some false) else ((floats_Compare.f a0 a1).bind fun t170 => ((foundryref01_Compare.f k a0 a1).bind fun t171 => (if t170 = t171 then ((foundrylaw01_alive.f k).bind fun t172 => (some t172)) else (some false)))))))) else (some false)) else (if t164 = true then (some false) else ((floats_LessEq.f a0 a1).bind fun t173 => ((foundryref01_LessEq.f k a0 a1).bind fun t174 => (if t173 = true then (if t174 = true then ((floats_Compare.f a0 a1).bind fun t175 => ((foundryref01_Compare.f k a0 a1).bind fun t176 => (if t175 = t176 then ((foundrylaw01_alive.f k).bind fun t177 => (some t177)) else (some false)))) else (some false)) else (if t174 = true then (some false) else ((floats_Compare.f a0 a1).bind fun t178 => ((foundryref01_Compare.f k a0 a1).bind fun t179 => (if t178 = t179 then ((foundrylaw01_alive.f k).bind fun t180 => (some t180)) else (some false)))))))))) = some r := H
      have A86 := Aside0.mk A860
      clear A860
      by_cases c87 : t163 = true
      · subst c87
        have H1 : (if t164 = true then ((floats_LessEq.f a0 a1).bind fun t165 => ((foundryref01_LessEq.f k a0 a1).bind fun t166 => (if t165 = true then (if t166 = true then ((floats_Compare.f a0 a1).bind fun t167 => ((foundryref01_Compare.f k a0 a1).bind fun t168 => (if t167 = t168 then ((foundrylaw01_alive.f k).bind fun t169 => (some t169)) else (some false)))) else (some false)) else (if t166 = true then (some false) else ((floats_Compare.f a0 a1).bind fun t170 => ((foundryref01_Compare.f k a0 a1).bind fun t171 => (if t170 = t171 then ((foundrylaw01_alive.f k).bind fun t172 => (some t172)) else (some false)))))))) else (some false)) = some r := by rw [if_pos rfl] at H; exact H
        clear H
        have H := H1
        clear H1
        by_cases c88 : t164 = true
        · subst c88
          have H1 : ((floats_LessEq.f a0 a1).bind fun t165 => ((foundryref01_LessEq.f k a0 a1).bind fun t166 => (if t165 = true then (if t166 = true then ((floats_Compare.f a0 a1).bind fun t167 => ((foundryref01_Compare.f k a0 a1).bind fun t168 => (if t167 = t168 then ((foundrylaw01_alive.f k).bind fun t169 => (some t169)) else (some false)))) else (some false)) else (if t166 = true then (some false) else ((floats_Compare.f a0 a1).bind fun t170 => ((foundryref01_Compare.f k a0 a1).bind fun t171 => (if t170 = t171 then ((foundrylaw01_alive.f k).bind fun t172 => (some t172)) else (some false)))))))) = some r := by rw [if_pos rfl] at H; exact H
          clear H
          have H := H1
          clear H1
          replace H := Option.bind_eq_some_iff.mp H
          obtain ⟨t165, A890, H⟩ := H
          replace H : ((foundryref01_LessEq.f k a0 a1).bind fun t166 => (if t165 = true then (if t166 = true then ((floats_Compare.f a0 a1).bind fun t167 => ((foundryref01_Compare.f k a0 a1).bind fun t168 => (if t167 = t168 then ((foundrylaw01_alive.f k).bind fun t169 => (some t169)) else (some false)))) else (some false)) else (if t166 = true then (some false) else ((floats_Compare.f a0 a1).bind fun t170 => ((foundryref01_Compare.f k a0 a1).bind fun t171 => (if t170 = t171 then ((foundrylaw01_alive.f k).bind fun t172 => (some t172)) else (some false))))))) = some r := H
          have A89 := Aside0.mk A890
          clear A890
          replace H := Option.bind_eq_some_iff.mp H
          obtain ⟨t166, A900, H⟩ := H
          replace H : (if t165 = true then (if t166 = true then ((floats_Compare.f a0 a1).bind fun t167 => ((foundryref01_Compare.f k a0 a1).bind fun t168 => (if t167 = t168 then ((foundrylaw01_alive.f k).bind fun t169 => (some t169)) else (some false)))) else (some false)) else (if t166 = true then (some false) else ((floats_Compare.f a0 a1).bind fun t170 => ((foundryref01_Compare.f k a0 a1).bind fun t171 => (if t170 = t171 then ((foundrylaw01_alive.f k).bind fun t172 => (some t172)) else (some false)))))) = some r := H
          have A90 := Aside0.mk A900
          clear A900
          by_cases c91 : t165 = true
          · subst c91
            have H1 : (if t166 = true then ((floats_Compare.f a0 a1).bind fun t167 => ((foundryref01_Compare.f k a0 a1).bind fun t168 => (if t167 = t168 then ((foundrylaw01_alive.f k).bind fun t169 => (some t169)) else (some false)))) else (some false)) = some r := by rw [if_pos rfl] at H; exact H
            clear H
            have H := H1
            clear H1
            by_cases c92 : t166 = true
            · subst c92
              have H1 : ((floats_Compare.f a0 a1).bind fun t167 => ((foundryref01_Compare.f k a0 a1).bind fun t168 => (if t167 = t168 then ((foundrylaw01_alive.f k).bind fun t169 => (some t169)) else (some false)))) = some r := by rw [if_pos rfl] at H; exact H
              clear H
              have H := H1
              clear H1
              replace H := Option.bind_eq_some_iff.mp H
              obtain ⟨t167, A930, H⟩ := H
              replace H : ((foundryref01_Compare.f k a0 a1).bind fun t168 => (if t167 = t168 then ((foundrylaw01_alive.f k).bind fun t169 => (some t169)) else (some false))) = some r := H
              have A93 := Aside0.mk A930
              clear A930
              replace H := Option.bind_eq_some_iff.mp H
              obtain ⟨t168, A940, H⟩ := H
              replace H : (if t167 = t168 then ((foundrylaw01_alive.f k).bind fun t169 => (some t169)) else (some false)) = some r := H
              have A94 := Aside0.mk A940
              clear A940
              by_cases c95 : t167 = t168
              · rw [if_pos c95] at H
                have c95b0 : (t167 == t168) = true := beq_iff_eq.mpr c95
                have c95b1 : (t167 != t168) = false := bne_eq_false_iff_eq.mpr c95
                clear c95
                replace H := Option.bind_eq_some_iff.mp H
                obtain ⟨t169, A960, H⟩ := H
                replace H : (some t169) = some r := H
                have A96 := Aside0.mk A960
                clear A960
                obtain rfl := Option.some.inj H
                go_enter Tryd.func3, Tryd.ntmps3
                go_wp2_with (first | ((with_reducible refine gate_callee (f := 10) rfl ?_); refine goesL_ (some 7) rfl rfl Tryd.func10 (by kernel_rfl) rfl #[.int .u64 a0, .int .u64 a1] rfl (by (try simp only [List.map_toArray, List.map_cons, List.map_nil]); first | done | rfl | (simp only [List.length_drop, List.length_take]; rfl)) ?_; (with_reducible refine (floats_Equal.calls a0 a1 false _ A3.out).mono ?_); rintro e w97 ⟨rfl, hb⟩; refine ⟨_, rfl, ?_⟩; have n0_ := Aside0.mk (below_step (by repeat (first | (with_reducible first | exact HB.out | apply below_alloc | apply pw_below_drewN | apply below_drew1) | exact HB.out)) hb); clear HB; have HB := n0_; clear n0_; (try clear hb); (try clear hb2); (try clear hk); (try clear hi)) | ((with_reducible refine gate_callee (f := 11) rfl ?_); refine goesL_ (some 10) rfl rfl Tryd.func11 (by kernel_rfl) rfl #[.int .u64 a0, .int .u64 a1] rfl (by (try simp only [List.map_toArray, List.map_cons, List.map_nil]); first | done | rfl | (simp only [List.length_drop, List.length_take]; rfl)) ?_; (with_reducible refine (foundryref01_Equal.calls k a0 a1 false _ A4.out).mono ?_); rintro e w' ⟨rfl, ⟨nd, rfl⟩⟩; refine ⟨_, rfl, ?_⟩) | (go_at_call 12; (with_reducible refine (floats_Less.calls a0 a1 true _ A85.out).mono ?_); rintro e w98 ⟨rfl, hb⟩; have n0_ := Aside0.mk (below_step (by repeat (first | (with_reducible first | exact HB.out | apply below_alloc | apply pw_below_drewN | apply below_drew1) | exact HB.out)) hb); clear HB; have HB := n0_; clear n0_; (try clear hb); (try clear hb2); (try clear hk); (try clear hi)) | (go_at_call 13; (with_reducible refine (foundryref01_Less.calls k a0 a1 true _ A86.out).mono ?_); rintro e w' ⟨rfl, ⟨nd, rfl⟩⟩) | (go_at_call 14; (with_reducible refine (floats_LessEq.calls a0 a1 true _ A89.out).mono ?_); rintro e w99 ⟨rfl, hb⟩; have n0_ := Aside0.mk (below_step (by repeat (first | (with_reducible first | exact HB.out | apply below_alloc | apply pw_below_drewN | apply below_drew1) | exact HB.out)) hb); clear HB; have HB := n0_; clear n0_; (try clear hb); (try clear hb2); (try clear hk); (try clear hi)) | (go_at_call 15; (with_reducible refine (foundryref01_LessEq.calls k a0 a1 true _ A90.out).mono ?_); rintro e w' ⟨rfl, ⟨nd, rfl⟩⟩) | (go_at_call 16; (with_reducible refine (floats_Compare.calls a0 a1 t167 _ A93.out).mono ?_); rintro e w' ⟨rfl, ⟨nd, rfl⟩⟩) | (go_at_call 17; (with_reducible refine (foundryref01_Compare.calls k a0 a1 t168 _ A94.out).mono ?_); rintro e w' ⟨rfl, ⟨nd, rfl⟩⟩) | (go_at_call 18; (with_reducible refine (foundrylaw01_alive.calls k  t169 _ A96.out).mono ?_); rintro e w100 ⟨rfl, hb⟩; have n0_ := Aside0.mk (below_step (by repeat (first | (with_reducible first | exact HB.out | apply below_alloc | apply pw_below_drewN | apply below_drew1) | exact HB.out)) hb); clear HB; have HB := n0_; clear n0_; (try clear hb); (try clear hb2); (try clear hk); (try clear hi)))
                go_ret
                exact ⟨by first | rfl | (simp [errW_none, errW_some] <;> rfl) | (simp [*, errW_none, errW_some] <;> rfl), by repeat (first | (with_reducible first | exact HB.out | apply below_alloc | apply pw_below_drewN | apply below_drew1) | exact HB.out)⟩
              · rw [if_neg c95] at H
                have c95b0 : (t167 == t168) = false := beq_eq_false_iff_ne.mpr c95
                have c95b1 : (t167 != t168) = true := bne_iff_ne.mpr c95
                obtain rfl := Option.some.inj H
                go_enter Tryd.func3, Tryd.ntmps3
                go_wp2_with (first | ((with_reducible refine gate_callee (f := 10) rfl ?_); refine goesL_ (some 7) rfl rfl Tryd.func10 (by kernel_rfl) rfl #[.int .u64 a0, .int .u64 a1] rfl (by (try simp only [List.map_toArray, List.map_cons, List.map_nil]); first | done | rfl | (simp only [List.length_drop, List.length_take]; rfl)) ?_; (with_reducible refine (floats_Equal.calls a0 a1 false _ A3.out).mono ?_); rintro e w101 ⟨rfl, hb⟩; refine ⟨_, rfl, ?_⟩; have n0_ := Aside0.mk (below_step (by repeat (first | (with_reducible first | exact HB.out | apply below_alloc | apply pw_below_drewN | apply below_drew1) | exact HB.out)) hb); clear HB; have HB := n0_; clear n0_; (try clear hb); (try clear hb2); (try clear hk); (try clear hi)) | ((with_reducible refine gate_callee (f := 11) rfl ?_); refine goesL_ (some 10) rfl rfl Tryd.func11 (by kernel_rfl) rfl #[.int .u64 a0, .int .u64 a1] rfl (by (try simp only [List.map_toArray, List.map_cons, List.map_nil]); first | done | rfl | (simp only [List.length_drop, List.length_take]; rfl)) ?_; (with_reducible refine (foundryref01_Equal.calls k a0 a1 false _ A4.out).mono ?_); rintro e w' ⟨rfl, ⟨nd, rfl⟩⟩; refine ⟨_, rfl, ?_⟩) | (go_at_call 12; (with_reducible refine (floats_Less.calls a0 a1 true _ A85.out).mono ?_); rintro e w102 ⟨rfl, hb⟩; have n0_ := Aside0.mk (below_step (by repeat (first | (with_reducible first | exact HB.out | apply below_alloc | apply pw_below_drewN | apply below_drew1) | exact HB.out)) hb); clear HB; have HB := n0_; clear n0_; (try clear hb); (try clear hb2); (try clear hk); (try clear hi)) | (go_at_call 13; (with_reducible refine (foundryref01_Less.calls k a0 a1 true _ A86.out).mono ?_); rintro e w' ⟨rfl, ⟨nd, rfl⟩⟩) | (go_at_call 14; (with_reducible refine (floats_LessEq.calls a0 a1 true _ A89.out).mono ?_); rintro e w103 ⟨rfl, hb⟩; have n0_ := Aside0.mk (below_step (by repeat (first | (with_reducible first | exact HB.out | apply below_alloc | apply pw_below_drewN | apply below_drew1) | exact HB.out)) hb); clear HB; have HB := n0_; clear n0_; (try clear hb); (try clear hb2); (try clear hk); (try clear hi)) | (go_at_call 15; (with_reducible refine (foundryref01_LessEq.calls k a0 a1 true _ A90.out).mono ?_); rintro e w' ⟨rfl, ⟨nd, rfl⟩⟩) | (go_at_call 16; (with_reducible refine (floats_Compare.calls a0 a1 t167 _ A93.out).mono ?_); rintro e w' ⟨rfl, ⟨nd, rfl⟩⟩) | (go_at_call 17; (with_reducible refine (foundryref01_Compare.calls k a0 a1 t168 _ A94.out).mono ?_); rintro e w' ⟨rfl, ⟨nd, rfl⟩⟩))
                go_ret
                exact ⟨by first | rfl | (simp [errW_none, errW_some] <;> rfl) | (simp [*, errW_none, errW_some] <;> rfl), by repeat (first | (with_reducible first | exact HB.out | apply below_alloc | apply pw_below_drewN | apply below_drew1) | exact HB.out)⟩
            · replace c92 := Bool.eq_false_iff.mpr c92
              subst c92
              have H1 : (some false) = some r := by rw [if_neg (show ¬ (false = true) by decide)] at H; exact H
              clear H
              have H := H1
              clear H1
              obtain rfl := Option.some.inj H
              go_enter Tryd.func3, Tryd.ntmps3
              go_wp2_with (first | ((with_reducible refine gate_callee (f := 10) rfl ?_); refine goesL_ (some 7) rfl rfl Tryd.func10 (by kernel_rfl) rfl #[.int .u64 a0, .int .u64 a1] rfl (by (try simp only [List.map_toArray, List.map_cons, List.map_nil]); first | done | rfl | (simp only [List.length_drop, List.length_take]; rfl)) ?_; (with_reducible refine (floats_Equal.calls a0 a1 false _ A3.out).mono ?_); rintro e w104 ⟨rfl, hb⟩; refine ⟨_, rfl, ?_⟩; have n0_ := Aside0.mk (below_step (by repeat (first | (with_reducible first | exact HB.out | apply below_alloc | apply pw_below_drewN | apply below_drew1) | exact HB.out)) hb); clear HB; have HB := n0_; clear n0_; (try clear hb); (try clear hb2); (try clear hk); (try clear hi)) | ((with_reducible refine gate_callee (f := 11) rfl ?_); refine goesL_ (some 10) rfl rfl Tryd.func11 (by kernel_rfl) rfl #[.int .u64 a0, .int .u64 a1] rfl (by (try simp only [List.map_toArray, List.map_cons, List.map_nil]); first | done | rfl | (simp only [List.length_drop, List.length_take]; rfl)) ?_; (with_reducible refine (foundryref01_Equal.calls k a0 a1 false _ A4.out).mono ?_); rintro e w' ⟨rfl, ⟨nd, rfl⟩⟩; refine ⟨_, rfl, ?_⟩) | (go_at_call 12; (with_reducible refine (floats_Less.calls a0 a1 true _ A85.out).mono ?_); rintro e w105 ⟨rfl, hb⟩; have n0_ := Aside0.mk (below_step (by repeat (first | (with_reducible first | exact HB.out | apply below_alloc | apply pw_below_drewN | apply below_drew1) | exact HB.out)) hb); clear HB; have HB := n0_; clear n0_; (try clear hb); (try clear hb2); (try clear hk); (try clear hi)) | (go_at_call 13; (with_reducible refine (foundryref01_Less.calls k a0 a1 true _ A86.out).mono ?_); rintro e w' ⟨rfl, ⟨nd, rfl⟩⟩) | (go_at_call 14; (with_reducible refine (floats_LessEq.calls a0 a1 true _ A89.out).mono ?_); rintro e w106 ⟨rfl, hb⟩; have n0_ := Aside0.mk (below_step (by repeat (first | (with_reducible first | exact HB.out | apply below_alloc | apply pw_below_drewN | apply below_drew1) | exact HB.out)) hb); clear HB; have HB := n0_; clear n0_; (try clear hb); (try clear hb2); (try clear hk); (try clear hi)) | (go_at_call 15; (with_reducible refine (foundryref01_LessEq.calls k a0 a1 false _ A90.out).mono ?_); rintro e w' ⟨rfl, ⟨nd, rfl⟩⟩))
              go_ret
              exact ⟨by first | rfl | (simp [errW_none, errW_some] <;> rfl) | (simp [*, errW_none, errW_some] <;> rfl), by repeat (first | (with_reducible first | exact HB.out | apply below_alloc | apply pw_below_drewN | apply below_drew1) | exact HB.out)⟩
          · replace c91 := Bool.eq_false_iff.mpr c91
            subst c91
            have H1 : (if t166 = true then (some false) else ((floats_Compare.f a0 a1).bind fun t170 => ((foundryref01_Compare.f k a0 a1).bind fun t171 => (if t170 = t171 then ((foundrylaw01_alive.f k).bind fun t172 => (some t172)) else (some false))))) = some r := by rw [if_neg (show ¬ (false = true) by decide)] at H; exact H
            clear H
            have H := H1
            clear H1
            by_cases c107 : t166 = true
            · subst c107
              have H1 : (some false) = some r := by rw [if_pos rfl] at H; exact H
              clear H
              have H := H1
              clear H1
              obtain rfl := Option.some.inj H
              go_enter Tryd.func3, Tryd.ntmps3
              go_wp2_with (first | ((with_reducible refine gate_callee (f := 10) rfl ?_); refine goesL_ (some 7) rfl rfl Tryd.func10 (by kernel_rfl) rfl #[.int .u64 a0, .int .u64 a1] rfl (by (try simp only [List.map_toArray, List.map_cons, List.map_nil]); first | done | rfl | (simp only [List.length_drop, List.length_take]; rfl)) ?_; (with_reducible refine (floats_Equal.calls a0 a1 false _ A3.out).mono ?_); rintro e w108 ⟨rfl, hb⟩; refine ⟨_, rfl, ?_⟩; have n0_ := Aside0.mk (below_step (by repeat (first | (with_reducible first | exact HB.out | apply below_alloc | apply pw_below_drewN | apply below_drew1) | exact HB.out)) hb); clear HB; have HB := n0_; clear n0_; (try clear hb); (try clear hb2); (try clear hk); (try clear hi)) | ((with_reducible refine gate_callee (f := 11) rfl ?_); refine goesL_ (some 10) rfl rfl Tryd.func11 (by kernel_rfl) rfl #[.int .u64 a0, .int .u64 a1] rfl (by (try simp only [List.map_toArray, List.map_cons, List.map_nil]); first | done | rfl | (simp only [List.length_drop, List.length_take]; rfl)) ?_; (with_reducible refine (foundryref01_Equal.calls k a0 a1 false _ A4.out).mono ?_); rintro e w' ⟨rfl, ⟨nd, rfl⟩⟩; refine ⟨_, rfl, ?_⟩) | (go_at_call 12; (with_reducible refine (floats_Less.calls a0 a1 true _ A85.out).mono ?_); rintro e w109 ⟨rfl, hb⟩; have n0_ := Aside0.mk (below_step (by repeat (first | (with_reducible first | exact HB.out | apply below_alloc | apply pw_below_drewN | apply below_drew1) | exact HB.out)) hb); clear HB; have HB := n0_; clear n0_; (try clear hb); (try clear hb2); (try clear hk); (try clear hi)) | (go_at_call 13; (with_reducible refine (foundryref01_Less.calls k a0 a1 true _ A86.out).mono ?_); rintro e w' ⟨rfl, ⟨nd, rfl⟩⟩) | (go_at_call 14; (with_reducible refine (floats_LessEq.calls a0 a1 false _ A89.out).mono ?_); rintro e w110 ⟨rfl, hb⟩; have n0_ := Aside0.mk (below_step (by repeat (first | (with_reducible first | exact HB.out | apply below_alloc | apply pw_below_drewN | apply below_drew1) | exact HB.out)) hb); clear HB; have HB := n0_; clear n0_; (try clear hb); (try clear hb2); (try clear hk); (try clear hi)) | (go_at_call 15; (with_reducible refine (foundryref01_LessEq.calls k a0 a1 true _ A90.out).mono ?_); rintro e w' ⟨rfl, ⟨nd, rfl⟩⟩))
              go_ret
              exact ⟨by first | rfl | (simp [errW_none, errW_some] <;> rfl) | (simp [*, errW_none, errW_some] <;> rfl), by repeat (first | (with_reducible first | exact HB.out | apply below_alloc | apply pw_below_drewN | apply below_drew1) | exact HB.out)⟩
            · replace c107 := Bool.eq_false_iff.mpr c107
              subst c107
              have H1 : ((floats_Compare.f a0 a1).bind fun t170 => ((foundryref01_Compare.f k a0 a1).bind fun t171 => (if t170 = t171 then ((foundrylaw01_alive.f k).bind fun t172 => (some t172)) else (some false)))) = some r := by rw [if_neg (show ¬ (false = true) by decide)] at H; exact H
              clear H
              have H := H1
              clear H1
              replace H := Option.bind_eq_some_iff.mp H
              obtain ⟨t170, A1110, H⟩ := H
              replace H : ((foundryref01_Compare.f k a0 a1).bind fun t171 => (if t170 = t171 then ((foundrylaw01_alive.f k).bind fun t172 => (some t172)) else (some false))) = some r := H
              have A111 := Aside0.mk A1110
              clear A1110
              replace H := Option.bind_eq_some_iff.mp H
              obtain ⟨t171, A1120, H⟩ := H
              replace H : (if t170 = t171 then ((foundrylaw01_alive.f k).bind fun t172 => (some t172)) else (some false)) = some r := H
              have A112 := Aside0.mk A1120
              clear A1120
              by_cases c113 : t170 = t171
              · rw [if_pos c113] at H
                have c113b0 : (t170 == t171) = true := beq_iff_eq.mpr c113
                have c113b1 : (t170 != t171) = false := bne_eq_false_iff_eq.mpr c113
                clear c113
                replace H := Option.bind_eq_some_iff.mp H
                obtain ⟨t172, A1140, H⟩ := H
                replace H : (some t172) = some r := H
                have A114 := Aside0.mk A1140
                clear A1140
                obtain rfl := Option.some.inj H
                go_enter Tryd.func3, Tryd.ntmps3
                go_wp2_with (first | ((with_reducible refine gate_callee (f := 10) rfl ?_); refine goesL_ (some 7) rfl rfl Tryd.func10 (by kernel_rfl) rfl #[.int .u64 a0, .int .u64 a1] rfl (by (try simp only [List.map_toArray, List.map_cons, List.map_nil]); first | done | rfl | (simp only [List.length_drop, List.length_take]; rfl)) ?_; (with_reducible refine (floats_Equal.calls a0 a1 false _ A3.out).mono ?_); rintro e w115 ⟨rfl, hb⟩; refine ⟨_, rfl, ?_⟩; have n0_ := Aside0.mk (below_step (by repeat (first | (with_reducible first | exact HB.out | apply below_alloc | apply pw_below_drewN | apply below_drew1) | exact HB.out)) hb); clear HB; have HB := n0_; clear n0_; (try clear hb); (try clear hb2); (try clear hk); (try clear hi)) | ((with_reducible refine gate_callee (f := 11) rfl ?_); refine goesL_ (some 10) rfl rfl Tryd.func11 (by kernel_rfl) rfl #[.int .u64 a0, .int .u64 a1] rfl (by (try simp only [List.map_toArray, List.map_cons, List.map_nil]); first | done | rfl | (simp only [List.length_drop, List.length_take]; rfl)) ?_; (with_reducible refine (foundryref01_Equal.calls k a0 a1 false _ A4.out).mono ?_); rintro e w' ⟨rfl, ⟨nd, rfl⟩⟩; refine ⟨_, rfl, ?_⟩) | (go_at_call 12; (with_reducible refine (floats_Less.calls a0 a1 true _ A85.out).mono ?_); rintro e w116 ⟨rfl, hb⟩; have n0_ := Aside0.mk (below_step (by repeat (first | (with_reducible first | exact HB.out | apply below_alloc | apply pw_below_drewN | apply below_drew1) | exact HB.out)) hb); clear HB; have HB := n0_; clear n0_; (try clear hb); (try clear hb2); (try clear hk); (try clear hi)) | (go_at_call 13; (with_reducible refine (foundryref01_Less.calls k a0 a1 true _ A86.out).mono ?_); rintro e w' ⟨rfl, ⟨nd, rfl⟩⟩) | (go_at_call 14; (with_reducible refine (floats_LessEq.calls a0 a1 false _ A89.out).mono ?_); rintro e w117 ⟨rfl, hb⟩; have n0_ := Aside0.mk (below_step (by repeat (first | (with_reducible first | exact HB.out | apply below_alloc | apply pw_below_drewN | apply below_drew1) | exact HB.out)) hb); clear HB; have HB := n0_; clear n0_; (try clear hb); (try clear hb2); (try clear hk); (try clear hi)) | (go_at_call 15; (with_reducible refine (foundryref01_LessEq.calls k a0 a1 false _ A90.out).mono ?_); rintro e w' ⟨rfl, ⟨nd, rfl⟩⟩) | (go_at_call 16; (with_reducible refine (floats_Compare.calls a0 a1 t170 _ A111.out).mono ?_); rintro e w' ⟨rfl, ⟨nd, rfl⟩⟩) | (go_at_call 17; (with_reducible refine (foundryref01_Compare.calls k a0 a1 t171 _ A112.out).mono ?_); rintro e w' ⟨rfl, ⟨nd, rfl⟩⟩) | (go_at_call 18; (with_reducible refine (foundrylaw01_alive.calls k  t172 _ A114.out).mono ?_); rintro e w118 ⟨rfl, hb⟩; have n0_ := Aside0.mk (below_step (by repeat (first | (with_reducible first | exact HB.out | apply below_alloc | apply pw_below_drewN | apply below_drew1) | exact HB.out)) hb); clear HB; have HB := n0_; clear n0_; (try clear hb); (try clear hb2); (try clear hk); (try clear hi)))
                go_ret
                exact ⟨by first | rfl | (simp [errW_none, errW_some] <;> rfl) | (simp [*, errW_none, errW_some] <;> rfl), by repeat (first | (with_reducible first | exact HB.out | apply below_alloc | apply pw_below_drewN | apply below_drew1) | exact HB.out)⟩
              · rw [if_neg c113] at H
                have c113b0 : (t170 == t171) = false := beq_eq_false_iff_ne.mpr c113
                have c113b1 : (t170 != t171) = true := bne_iff_ne.mpr c113
                obtain rfl := Option.some.inj H
                go_enter Tryd.func3, Tryd.ntmps3
                go_wp2_with (first | ((with_reducible refine gate_callee (f := 10) rfl ?_); refine goesL_ (some 7) rfl rfl Tryd.func10 (by kernel_rfl) rfl #[.int .u64 a0, .int .u64 a1] rfl (by (try simp only [List.map_toArray, List.map_cons, List.map_nil]); first | done | rfl | (simp only [List.length_drop, List.length_take]; rfl)) ?_; (with_reducible refine (floats_Equal.calls a0 a1 false _ A3.out).mono ?_); rintro e w119 ⟨rfl, hb⟩; refine ⟨_, rfl, ?_⟩; have n0_ := Aside0.mk (below_step (by repeat (first | (with_reducible first | exact HB.out | apply below_alloc | apply pw_below_drewN | apply below_drew1) | exact HB.out)) hb); clear HB; have HB := n0_; clear n0_; (try clear hb); (try clear hb2); (try clear hk); (try clear hi)) | ((with_reducible refine gate_callee (f := 11) rfl ?_); refine goesL_ (some 10) rfl rfl Tryd.func11 (by kernel_rfl) rfl #[.int .u64 a0, .int .u64 a1] rfl (by (try simp only [List.map_toArray, List.map_cons, List.map_nil]); first | done | rfl | (simp only [List.length_drop, List.length_take]; rfl)) ?_; (with_reducible refine (foundryref01_Equal.calls k a0 a1 false _ A4.out).mono ?_); rintro e w' ⟨rfl, ⟨nd, rfl⟩⟩; refine ⟨_, rfl, ?_⟩) | (go_at_call 12; (with_reducible refine (floats_Less.calls a0 a1 true _ A85.out).mono ?_); rintro e w120 ⟨rfl, hb⟩; have n0_ := Aside0.mk (below_step (by repeat (first | (with_reducible first | exact HB.out | apply below_alloc | apply pw_below_drewN | apply below_drew1) | exact HB.out)) hb); clear HB; have HB := n0_; clear n0_; (try clear hb); (try clear hb2); (try clear hk); (try clear hi)) | (go_at_call 13; (with_reducible refine (foundryref01_Less.calls k a0 a1 true _ A86.out).mono ?_); rintro e w' ⟨rfl, ⟨nd, rfl⟩⟩) | (go_at_call 14; (with_reducible refine (floats_LessEq.calls a0 a1 false _ A89.out).mono ?_); rintro e w121 ⟨rfl, hb⟩; have n0_ := Aside0.mk (below_step (by repeat (first | (with_reducible first | exact HB.out | apply below_alloc | apply pw_below_drewN | apply below_drew1) | exact HB.out)) hb); clear HB; have HB := n0_; clear n0_; (try clear hb); (try clear hb2); (try clear hk); (try clear hi)) | (go_at_call 15; (with_reducible refine (foundryref01_LessEq.calls k a0 a1 false _ A90.out).mono ?_); rintro e w' ⟨rfl, ⟨nd, rfl⟩⟩) | (go_at_call 16; (with_reducible refine (floats_Compare.calls a0 a1 t170 _ A111.out).mono ?_); rintro e w' ⟨rfl, ⟨nd, rfl⟩⟩) | (go_at_call 17; (with_reducible refine (foundryref01_Compare.calls k a0 a1 t171 _ A112.out).mono ?_); rintro e w' ⟨rfl, ⟨nd, rfl⟩⟩))
                go_ret
                exact ⟨by first | rfl | (simp [errW_none, errW_some] <;> rfl) | (simp [*, errW_none, errW_some] <;> rfl), by repeat (first | (with_reducible first | exact HB.out | apply below_alloc | apply pw_below_drewN | apply below_drew1) | exact HB.out)⟩
        · replace c88 := Bool.eq_false_iff.mpr c88
          subst c88
          have H1 : (some false) = some r := by rw [if_neg (show ¬ (false = true) by decide)] at H; exact H
          clear H
          have H := H1
          clear H1
          obtain rfl := Option.some.inj H
          go_enter Tryd.func3, Tryd.ntmps3
          go_wp2_with (first | ((with_reducible refine gate_callee (f := 10) rfl ?_); refine goesL_ (some 7) rfl rfl Tryd.func10 (by kernel_rfl) rfl #[.int .u64 a0, .int .u64 a1] rfl (by (try simp only [List.map_toArray, List.map_cons, List.map_nil]); first | done | rfl | (simp only [List.length_drop, List.length_take]; rfl)) ?_; (with_reducible refine (floats_Equal.calls a0 a1 false _ A3.out).mono ?_); rintro e w122 ⟨rfl, hb⟩; refine ⟨_, rfl, ?_⟩; have n0_ := Aside0.mk (below_step (by repeat (first | (with_reducible first | exact HB.out | apply below_alloc | apply pw_below_drewN | apply below_drew1) | exact HB.out)) hb); clear HB; have HB := n0_; clear n0_; (try clear hb); (try clear hb2); (try clear hk); (try clear hi)) | ((with_reducible refine gate_callee (f := 11) rfl ?_); refine goesL_ (some 10) rfl rfl Tryd.func11 (by kernel_rfl) rfl #[.int .u64 a0, .int .u64 a1] rfl (by (try simp only [List.map_toArray, List.map_cons, List.map_nil]); first | done | rfl | (simp only [List.length_drop, List.length_take]; rfl)) ?_; (with_reducible refine (foundryref01_Equal.calls k a0 a1 false _ A4.out).mono ?_); rintro e w' ⟨rfl, ⟨nd, rfl⟩⟩; refine ⟨_, rfl, ?_⟩) | (go_at_call 12; (with_reducible refine (floats_Less.calls a0 a1 true _ A85.out).mono ?_); rintro e w123 ⟨rfl, hb⟩; have n0_ := Aside0.mk (below_step (by repeat (first | (with_reducible first | exact HB.out | apply below_alloc | apply pw_below_drewN | apply below_drew1) | exact HB.out)) hb); clear HB; have HB := n0_; clear n0_; (try clear hb); (try clear hb2); (try clear hk); (try clear hi)) | (go_at_call 13; (with_reducible refine (foundryref01_Less.calls k a0 a1 false _ A86.out).mono ?_); rintro e w' ⟨rfl, ⟨nd, rfl⟩⟩))
          go_ret
          exact ⟨by first | rfl | (simp [errW_none, errW_some] <;> rfl) | (simp [*, errW_none, errW_some] <;> rfl), by repeat (first | (with_reducible first | exact HB.out | apply below_alloc | apply pw_below_drewN | apply below_drew1) | exact HB.out)⟩
      · replace c87 := Bool.eq_false_iff.mpr c87
        subst c87
        have H1 : (if t164 = true then (some false) else ((floats_LessEq.f a0 a1).bind fun t173 => ((foundryref01_LessEq.f k a0 a1).bind fun t174 => (if t173 = true then (if t174 = true then ((floats_Compare.f a0 a1).bind fun t175 => ((foundryref01_Compare.f k a0 a1).bind fun t176 => (if t175 = t176 then ((foundrylaw01_alive.f k).bind fun t177 => (some t177)) else (some false)))) else (some false)) else (if t174 = true then (some false) else ((floats_Compare.f a0 a1).bind fun t178 => ((foundryref01_Compare.f k a0 a1).bind fun t179 => (if t178 = t179 then ((foundrylaw01_alive.f k).bind fun t180 => (some t180)) else (some false))))))))) = some r := by rw [if_neg (show ¬ (false = true) by decide)] at H; exact H
        clear H
        have H := H1
        clear H1
        by_cases c124 : t164 = true
        · subst c124
          have H1 : (some false) = some r := by rw [if_pos rfl] at H; exact H
          clear H
          have H := H1
          clear H1
          obtain rfl := Option.some.inj H
          go_enter Tryd.func3, Tryd.ntmps3
          go_wp2_with (first | ((with_reducible refine gate_callee (f := 10) rfl ?_); refine goesL_ (some 7) rfl rfl Tryd.func10 (by kernel_rfl) rfl #[.int .u64 a0, .int .u64 a1] rfl (by (try simp only [List.map_toArray, List.map_cons, List.map_nil]); first | done | rfl | (simp only [List.length_drop, List.length_take]; rfl)) ?_; (with_reducible refine (floats_Equal.calls a0 a1 false _ A3.out).mono ?_); rintro e w125 ⟨rfl, hb⟩; refine ⟨_, rfl, ?_⟩; have n0_ := Aside0.mk (below_step (by repeat (first | (with_reducible first | exact HB.out | apply below_alloc | apply pw_below_drewN | apply below_drew1) | exact HB.out)) hb); clear HB; have HB := n0_; clear n0_; (try clear hb); (try clear hb2); (try clear hk); (try clear hi)) | ((with_reducible refine gate_callee (f := 11) rfl ?_); refine goesL_ (some 10) rfl rfl Tryd.func11 (by kernel_rfl) rfl #[.int .u64 a0, .int .u64 a1] rfl (by (try simp only [List.map_toArray, List.map_cons, List.map_nil]); first | done | rfl | (simp only [List.length_drop, List.length_take]; rfl)) ?_; (with_reducible refine (foundryref01_Equal.calls k a0 a1 false _ A4.out).mono ?_); rintro e w' ⟨rfl, ⟨nd, rfl⟩⟩; refine ⟨_, rfl, ?_⟩) | (go_at_call 12; (with_reducible refine (floats_Less.calls a0 a1 false _ A85.out).mono ?_); rintro e w126 ⟨rfl, hb⟩; have n0_ := Aside0.mk (below_step (by repeat (first | (with_reducible first | exact HB.out | apply below_alloc | apply pw_below_drewN | apply below_drew1) | exact HB.out)) hb); clear HB; have HB := n0_; clear n0_; (try clear hb); (try clear hb2); (try clear hk); (try clear hi)) | (go_at_call 13; (with_reducible refine (foundryref01_Less.calls k a0 a1 true _ A86.out).mono ?_); rintro e w' ⟨rfl, ⟨nd, rfl⟩⟩))
          go_ret
          exact ⟨by first | rfl | (simp [errW_none, errW_some] <;> rfl) | (simp [*, errW_none, errW_some] <;> rfl), by repeat (first | (with_reducible first | exact HB.out | apply below_alloc | apply pw_below_drewN | apply below_drew1) | exact HB.out)⟩
        · replace c124 := Bool.eq_false_iff.mpr c124
          subst c124
          have H1 : ((floats_LessEq.f a0 a1).bind fun t173 => ((foundryref01_LessEq.f k a0 a1).bind fun t174 => (if t173 = true then (if t174 = true then ((floats_Compare.f a0 a1).bind fun t175 => ((foundryref01_Compare.f k a0 a1).bind fun t176 => (if t175 = t176 then ((foundrylaw01_alive.f k).bind fun t177 => (some t177)) else (some false)))) else (some false)) else (if t174 = true then (some false) else ((floats_Compare.f a0 a1).bind fun t178 => ((foundryref01_Compare.f k a0 a1).bind fun t179 => (if t178 = t179 then ((foundrylaw01_alive.f k).bind fun t180 => (some t180)) else (some false)))))))) = some r := by rw [if_neg (show ¬ (false = true) by decide)] at H; exact H
          clear H
          have H := H1
          clear H1
          replace H := Option.bind_eq_some_iff.mp H
          obtain ⟨t173, A1270, H⟩ := H
          replace H : ((foundryref01_LessEq.f k a0 a1).bind fun t174 => (if t173 = true then (if t174 = true then ((floats_Compare.f a0 a1).bind fun t175 => ((foundryref01_Compare.f k a0 a1).bind fun t176 => (if t175 = t176 then ((foundrylaw01_alive.f k).bind fun t177 => (some t177)) else (some false)))) else (some false)) else (if t174 = true then (some false) else ((floats_Compare.f a0 a1).bind fun t178 => ((foundryref01_Compare.f k a0 a1).bind fun t179 => (if t178 = t179 then ((foundrylaw01_alive.f k).bind fun t180 => (some t180)) else (some false))))))) = some r := H
          have A127 := Aside0.mk A1270
          clear A1270
          replace H := Option.bind_eq_some_iff.mp H
          obtain ⟨t174, A1280, H⟩ := H
          replace H : (if t173 = true then (if t174 = true then ((floats_Compare.f a0 a1).bind fun t175 => ((foundryref01_Compare.f k a0 a1).bind fun t176 => (if t175 = t176 then ((foundrylaw01_alive.f k).bind fun t177 => (some t177)) else (some false)))) else (some false)) else (if t174 = true then (some false) else ((floats_Compare.f a0 a1).bind fun t178 => ((foundryref01_Compare.f k a0 a1).bind fun t179 => (if t178 = t179 then ((foundrylaw01_alive.f k).bind fun t180 => (some t180)) else (some false)))))) = some r := H
          have A128 := Aside0.mk A1280
          clear A1280
          by_cases c129 : t173 = true
          · subst c129
            have H1 : (if t174 = true then ((floats_Compare.f a0 a1).bind fun t175 => ((foundryref01_Compare.f k a0 a1).bind fun t176 => (if t175 = t176 then ((foundrylaw01_alive.f k).bind fun t177 => (some t177)) else (some false)))) else (some false)) = some r := by rw [if_pos rfl] at H; exact H
            clear H
            have H := H1
            clear H1
            by_cases c130 : t174 = true
            · subst c130
              have H1 : ((floats_Compare.f a0 a1).bind fun t175 => ((foundryref01_Compare.f k a0 a1).bind fun t176 => (if t175 = t176 then ((foundrylaw01_alive.f k).bind fun t177 => (some t177)) else (some false)))) = some r := by rw [if_pos rfl] at H; exact H
              clear H
              have H := H1
              clear H1
              replace H := Option.bind_eq_some_iff.mp H
              obtain ⟨t175, A1310, H⟩ := H
              replace H : ((foundryref01_Compare.f k a0 a1).bind fun t176 => (if t175 = t176 then ((foundrylaw01_alive.f k).bind fun t177 => (some t177)) else (some false))) = some r := H
              have A131 := Aside0.mk A1310
              clear A1310
              replace H := Option.bind_eq_some_iff.mp H
              obtain ⟨t176, A1320, H⟩ := H
              replace H : (if t175 = t176 then ((foundrylaw01_alive.f k).bind fun t177 => (some t177)) else (some false)) = some r := H
              have A132 := Aside0.mk A1320
              clear A1320
              by_cases c133 : t175 = t176
              · rw [if_pos c133] at H
                have c133b0 : (t175 == t176) = true := beq_iff_eq.mpr c133
                have c133b1 : (t175 != t176) = false := bne_eq_false_iff_eq.mpr c133
                clear c133
                replace H := Option.bind_eq_some_iff.mp H
                obtain ⟨t177, A1340, H⟩ := H
                replace H : (some t177) = some r := H
                have A134 := Aside0.mk A1340
                clear A1340
                obtain rfl := Option.some.inj H
                go_enter Tryd.func3, Tryd.ntmps3
                go_wp2_with (first | ((with_reducible refine gate_callee (f := 10) rfl ?_); refine goesL_ (some 7) rfl rfl Tryd.func10 (by kernel_rfl) rfl #[.int .u64 a0, .int .u64 a1] rfl (by (try simp only [List.map_toArray, List.map_cons, List.map_nil]); first | done | rfl | (simp only [List.length_drop, List.length_take]; rfl)) ?_; (with_reducible refine (floats_Equal.calls a0 a1 false _ A3.out).mono ?_); rintro e w135 ⟨rfl, hb⟩; refine ⟨_, rfl, ?_⟩; have n0_ := Aside0.mk (below_step (by repeat (first | (with_reducible first | exact HB.out | apply below_alloc | apply pw_below_drewN | apply below_drew1) | exact HB.out)) hb); clear HB; have HB := n0_; clear n0_; (try clear hb); (try clear hb2); (try clear hk); (try clear hi)) | ((with_reducible refine gate_callee (f := 11) rfl ?_); refine goesL_ (some 10) rfl rfl Tryd.func11 (by kernel_rfl) rfl #[.int .u64 a0, .int .u64 a1] rfl (by (try simp only [List.map_toArray, List.map_cons, List.map_nil]); first | done | rfl | (simp only [List.length_drop, List.length_take]; rfl)) ?_; (with_reducible refine (foundryref01_Equal.calls k a0 a1 false _ A4.out).mono ?_); rintro e w' ⟨rfl, ⟨nd, rfl⟩⟩; refine ⟨_, rfl, ?_⟩) | (go_at_call 12; (with_reducible refine (floats_Less.calls a0 a1 false _ A85.out).mono ?_); rintro e w136 ⟨rfl, hb⟩; have n0_ := Aside0.mk (below_step (by repeat (first | (with_reducible first | exact HB.out | apply below_alloc | apply pw_below_drewN | apply below_drew1) | exact HB.out)) hb); clear HB; have HB := n0_; clear n0_; (try clear hb); (try clear hb2); (try clear hk); (try clear hi)) | (go_at_call 13; (with_reducible refine (foundryref01_Less.calls k a0 a1 false _ A86.out).mono ?_); rintro e w' ⟨rfl, ⟨nd, rfl⟩⟩) | (go_at_call 14; (with_reducible refine (floats_LessEq.calls a0 a1 true _ A127.out).mono ?_); rintro e w137 ⟨rfl, hb⟩; have n0_ := Aside0.mk (below_step (by repeat (first | (with_reducible first | exact HB.out | apply below_alloc | apply pw_below_drewN | apply below_drew1) | exact HB.out)) hb); clear HB; have HB := n0_; clear n0_; (try clear hb); (try clear hb2); (try clear hk); (try clear hi)) | (go_at_call 15; (with_reducible refine (foundryref01_LessEq.calls k a0 a1 true _ A128.out).mono ?_); rintro e w' ⟨rfl, ⟨nd, rfl⟩⟩) | (go_at_call 16; (with_reducible refine (floats_Compare.calls a0 a1 t175 _ A131.out).mono ?_); rintro e w' ⟨rfl, ⟨nd, rfl⟩⟩) | (go_at_call 17; (with_reducible refine (foundryref01_Compare.calls k a0 a1 t176 _ A132.out).mono ?_); rintro e w' ⟨rfl, ⟨nd, rfl⟩⟩) | (go_at_call 18; (with_reducible refine (foundrylaw01_alive.calls k  t177 _ A134.out).mono ?_); rintro e w138 ⟨rfl, hb⟩; have n0_ := Aside0.mk (below_step (by repeat (first | (with_reducible first | exact HB.out | apply below_alloc | apply pw_below_drewN | apply below_drew1) | exact HB.out)) hb); clear HB; have HB := n0_; clear n0_; (try clear hb); (try clear hb2); (try clear hk); (try clear hi)))
                go_ret
                exact ⟨by first | rfl | (simp [errW_none, errW_some] <;> rfl) | (simp [*, errW_none, errW_some] <;> rfl), by repeat (first | (with_reducible first | exact HB.out | apply below_alloc | apply pw_below_drewN | apply below_drew1) | exact HB.out)⟩
              · rw [if_neg c133] at H
                have c133b0 : (t175 == t176) = false := beq_eq_false_iff_ne.mpr c133
                have c133b1 : (t175 != t176) = true := bne_iff_ne.mpr c133
                obtain rfl := Option.some.inj H
                go_enter Tryd.func3, Tryd.ntmps3
                go_wp2_with (first | ((with_reducible refine gate_callee (f := 10) rfl ?_); refine goesL_ (some 7) rfl rfl Tryd.func10 (by kernel_rfl) rfl #[.int .u64 a0, .int .u64 a1] rfl (by (try simp only [List.map_toArray, List.map_cons, List.map_nil]); first | done | rfl | (simp only [List.length_drop, List.length_take]; rfl)) ?_; (with_reducible refine (floats_Equal.calls a0 a1 false _ A3.out).mono ?_); rintro e w139 ⟨rfl, hb⟩; refine ⟨_, rfl, ?_⟩; have n0_ := Aside0.mk (below_step (by repeat (first | (with_reducible first | exact HB.out | apply below_alloc | apply pw_below_drewN | apply below_drew1) | exact HB.out)) hb); clear HB; have HB := n0_; clear n0_; (try clear hb); (try clear hb2); (try clear hk); (try clear hi)) | ((with_reducible refine gate_callee (f := 11) rfl ?_); refine goesL_ (some 10) rfl rfl Tryd.func11 (by kernel_rfl) rfl #[.int .u64 a0, .int .u64 a1] rfl (by (try simp only [List.map_toArray, List.map_cons, List.map_nil]); first | done | rfl | (simp only [List.length_drop, List.length_take]; rfl)) ?_; (with_reducible refine (foundryref01_Equal.calls k a0 a1 false _ A4.out).mono ?_); rintro e w' ⟨rfl, ⟨nd, rfl⟩⟩; refine ⟨_, rfl, ?_⟩) | (go_at_call 12; (with_reducible refine (floats_Less.calls a0 a1 false _ A85.out).mono ?_); rintro e w140 ⟨rfl, hb⟩; have n0_ := Aside0.mk (below_step (by repeat (first | (with_reducible first | exact HB.out | apply below_alloc | apply pw_below_drewN | apply below_drew1) | exact HB.out)) hb); clear HB; have HB := n0_; clear n0_; (try clear hb); (try clear hb2); (try clear hk); (try clear hi)) | (go_at_call 13; (with_reducible refine (foundryref01_Less.calls k a0 a1 false _ A86.out).mono ?_); rintro e w' ⟨rfl, ⟨nd, rfl⟩⟩) | (go_at_call 14; (with_reducible refine (floats_LessEq.calls a0 a1 true _ A127.out).mono ?_); rintro e w141 ⟨rfl, hb⟩; have n0_ := Aside0.mk (below_step (by repeat (first | (with_reducible first | exact HB.out | apply below_alloc | apply pw_below_drewN | apply below_drew1) | exact HB.out)) hb); clear HB; have HB := n0_; clear n0_; (try clear hb); (try clear hb2); (try clear hk); (try clear hi)) | (go_at_call 15; (with_reducible refine (foundryref01_LessEq.calls k a0 a1 true _ A128.out).mono ?_); rintro e w' ⟨rfl, ⟨nd, rfl⟩⟩) | (go_at_call 16; (with_reducible refine (floats_Compare.calls a0 a1 t175 _ A131.out).mono ?_); rintro e w' ⟨rfl, ⟨nd, rfl⟩⟩) | (go_at_call 17; (with_reducible refine (foundryref01_Compare.calls k a0 a1 t176 _ A132.out).mono ?_); rintro e w' ⟨rfl, ⟨nd, rfl⟩⟩))
                go_ret
                exact ⟨by first | rfl | (simp [errW_none, errW_some] <;> rfl) | (simp [*, errW_none, errW_some] <;> rfl), by repeat (first | (with_reducible first | exact HB.out | apply below_alloc | apply pw_below_drewN | apply below_drew1) | exact HB.out)⟩
            · replace c130 := Bool.eq_false_iff.mpr c130
              subst c130
              have H1 : (some false) = some r := by rw [if_neg (show ¬ (false = true) by decide)] at H; exact H
              clear H
              have H := H1
              clear H1
              obtain rfl := Option.some.inj H
              go_enter Tryd.func3, Tryd.ntmps3
              go_wp2_with (first | ((with_reducible refine gate_callee (f := 10) rfl ?_); refine goesL_ (some 7) rfl rfl Tryd.func10 (by kernel_rfl) rfl #[.int .u64 a0, .int .u64 a1] rfl (by (try simp only [List.map_toArray, List.map_cons, List.map_nil]); first | done | rfl | (simp only [List.length_drop, List.length_take]; rfl)) ?_; (with_reducible refine (floats_Equal.calls a0 a1 false _ A3.out).mono ?_); rintro e w142 ⟨rfl, hb⟩; refine ⟨_, rfl, ?_⟩; have n0_ := Aside0.mk (below_step (by repeat (first | (with_reducible first | exact HB.out | apply below_alloc | apply pw_below_drewN | apply below_drew1) | exact HB.out)) hb); clear HB; have HB := n0_; clear n0_; (try clear hb); (try clear hb2); (try clear hk); (try clear hi)) | ((with_reducible refine gate_callee (f := 11) rfl ?_); refine goesL_ (some 10) rfl rfl Tryd.func11 (by kernel_rfl) rfl #[.int .u64 a0, .int .u64 a1] rfl (by (try simp only [List.map_toArray, List.map_cons, List.map_nil]); first | done | rfl | (simp only [List.length_drop, List.length_take]; rfl)) ?_; (with_reducible refine (foundryref01_Equal.calls k a0 a1 false _ A4.out).mono ?_); rintro e w' ⟨rfl, ⟨nd, rfl⟩⟩; refine ⟨_, rfl, ?_⟩) | (go_at_call 12; (with_reducible refine (floats_Less.calls a0 a1 false _ A85.out).mono ?_); rintro e w143 ⟨rfl, hb⟩; have n0_ := Aside0.mk (below_step (by repeat (first | (with_reducible first | exact HB.out | apply below_alloc | apply pw_below_drewN | apply below_drew1) | exact HB.out)) hb); clear HB; have HB := n0_; clear n0_; (try clear hb); (try clear hb2); (try clear hk); (try clear hi)) | (go_at_call 13; (with_reducible refine (foundryref01_Less.calls k a0 a1 false _ A86.out).mono ?_); rintro e w' ⟨rfl, ⟨nd, rfl⟩⟩) | (go_at_call 14; (with_reducible refine (floats_LessEq.calls a0 a1 true _ A127.out).mono ?_); rintro e w144 ⟨rfl, hb⟩; have n0_ := Aside0.mk (below_step (by repeat (first | (with_reducible first | exact HB.out | apply below_alloc | apply pw_below_drewN | apply below_drew1) | exact HB.out)) hb); clear HB; have HB := n0_; clear n0_; (try clear hb); (try clear hb2); (try clear hk); (try clear hi)) | (go_at_call 15; (with_reducible refine (foundryref01_LessEq.calls k a0 a1 false _ A128.out).mono ?_); rintro e w' ⟨rfl, ⟨nd, rfl⟩⟩))
              go_ret
              exact ⟨by first | rfl | (simp [errW_none, errW_some] <;> rfl) | (simp [*, errW_none, errW_some] <;> rfl), by repeat (first | (with_reducible first | exact HB.out | apply below_alloc | apply pw_below_drewN | apply below_drew1) | exact HB.out)⟩
          · replace c129 := Bool.eq_false_iff.mpr c129
            subst c129
            have H1 : (if t174 = true then (some false) else ((floats_Compare.f a0 a1).bind fun t178 => ((foundryref01_Compare.f k a0 a1).bind fun t179 => (if t178 = t179 then ((foundrylaw01_alive.f k).bind fun t180 => (some t180)) else (some false))))) = some r := by rw [if_neg (show ¬ (false = true) by decide)] at H; exact H
            clear H
            have H := H1
            clear H1
            by_cases c145 : t174 = true
            · subst c145
              have H1 : (some false) = some r := by rw [if_pos rfl] at H; exact H
              clear H
              have H := H1
              clear H1
              obtain rfl := Option.some.inj H
              go_enter Tryd.func3, Tryd.ntmps3
              go_wp2_with (first | ((with_reducible refine gate_callee (f := 10) rfl ?_); refine goesL_ (some 7) rfl rfl Tryd.func10 (by kernel_rfl) rfl #[.int .u64 a0, .int .u64 a1] rfl (by (try simp only [List.map_toArray, List.map_cons, List.map_nil]); first | done | rfl | (simp only [List.length_drop, List.length_take]; rfl)) ?_; (with_reducible refine (floats_Equal.calls a0 a1 false _ A3.out).mono ?_); rintro e w146 ⟨rfl, hb⟩; refine ⟨_, rfl, ?_⟩; have n0_ := Aside0.mk (below_step (by repeat (first | (with_reducible first | exact HB.out | apply below_alloc | apply pw_below_drewN | apply below_drew1) | exact HB.out)) hb); clear HB; have HB := n0_; clear n0_; (try clear hb); (try clear hb2); (try clear hk); (try clear hi)) | ((with_reducible refine gate_callee (f := 11) rfl ?_); refine goesL_ (some 10) rfl rfl Tryd.func11 (by kernel_rfl) rfl #[.int .u64 a0, .int .u64 a1] rfl (by (try simp only [List.map_toArray, List.map_cons, List.map_nil]); first | done | rfl | (simp only [List.length_drop, List.length_take]; rfl)) ?_; (with_reducible refine (foundryref01_Equal.calls k a0 a1 false _ A4.out).mono ?_); rintro e w' ⟨rfl, ⟨nd, rfl⟩⟩; refine ⟨_, rfl, ?_⟩) | (go_at_call 12; (with_reducible refine (floats_Less.calls a0 a1 false _ A85.out).mono ?_); rintro e w147 ⟨rfl, hb⟩; have n0_ := Aside0.mk (below_step (by repeat (first | (with_reducible first | exact HB.out | apply below_alloc | apply pw_below_drewN | apply below_drew1) | exact HB.out)) hb); clear HB; have HB := n0_; clear n0_; (try clear hb); (try clear hb2); (try clear hk); (try clear hi)) | (go_at_call 13; (with_reducible refine (foundryref01_Less.calls k a0 a1 false _ A86.out).mono ?_); rintro e w' ⟨rfl, ⟨nd, rfl⟩⟩) | (go_at_call 14; (with_reducible refine (floats_LessEq.calls a0 a1 false _ A127.out).mono ?_); rintro e w148 ⟨rfl, hb⟩; have n0_ := Aside0.mk (below_step (by repeat (first | (with_reducible first | exact HB.out | apply below_alloc | apply pw_below_drewN | apply below_drew1) | exact HB.out)) hb); clear HB; have HB := n0_; clear n0_; (try clear hb); (try clear hb2); (try clear hk); (try clear hi)) | (go_at_call 15; (with_reducible refine (foundryref01_LessEq.calls k a0 a1 true _ A128.out).mono ?_); rintro e w' ⟨rfl, ⟨nd, rfl⟩⟩))
              go_ret
              exact ⟨by first | rfl | (simp [errW_none, errW_some] <;> rfl) | (simp [*, errW_none, errW_some] <;> rfl), by repeat (first | (with_reducible first | exact HB.out | apply below_alloc | apply pw_below_drewN | apply below_drew1) | exact HB.out)⟩
            · replace c145 := Bool.eq_false_iff.mpr c145
              subst c145
              have H1 : ((floats_Compare.f a0 a1).bind fun t178 => ((foundryref01_Compare.f k a0 a1).bind fun t179 => (if t178 = t179 then ((foundrylaw01_alive.f k).bind fun t180 => (some t180)) else (some false)))) = some r := by rw [if_neg (show ¬ (false = true) by decide)] at H; exact H
              clear H
              have H := H1
              clear H1
              replace H := Option.bind_eq_some_iff.mp H
              obtain ⟨t178, A1490, H⟩ := H
              replace H : ((foundryref01_Compare.f k a0 a1).bind fun t179 => (if t178 = t179 then ((foundrylaw01_alive.f k).bind fun t180 => (some t180)) else (some false))) = some r := H
              have A149 := Aside0.mk A1490
              clear A1490
              replace H := Option.bind_eq_some_iff.mp H
              obtain ⟨t179, A1500, H⟩ := H
              replace H : (if t178 = t179 then ((foundrylaw01_alive.f k).bind fun t180 => (some t180)) else (some false)) = some r := H
              have A150 := Aside0.mk A1500
              clear A1500
              by_cases c151 : t178 = t179
              · rw [if_pos c151] at H
                have c151b0 : (t178 == t179) = true := beq_iff_eq.mpr c151
                have c151b1 : (t178 != t179) = false := bne_eq_false_iff_eq.mpr c151
                clear c151
                replace H := Option.bind_eq_some_iff.mp H
                obtain ⟨t180, A1520, H⟩ := H
                replace H : (some t180) = some r := H
                have A152 := Aside0.mk A1520
                clear A1520
                obtain rfl := Option.some.inj H
                go_enter Tryd.func3, Tryd.ntmps3
                go_wp2_with (first | ((with_reducible refine gate_callee (f := 10) rfl ?_); refine goesL_ (some 7) rfl rfl Tryd.func10 (by kernel_rfl) rfl #[.int .u64 a0, .int .u64 a1] rfl (by (try simp only [List.map_toArray, List.map_cons, List.map_nil]); first | done | rfl | (simp only [List.length_drop, List.length_take]; rfl)) ?_; (with_reducible refine (floats_Equal.calls a0 a1 false _ A3.out).mono ?_); rintro e w153 ⟨rfl, hb⟩; refine ⟨_, rfl, ?_⟩; have n0_ := Aside0.mk (below_step (by repeat (first | (with_reducible first | exact HB.out | apply below_alloc | apply pw_below_drewN | apply below_drew1) | exact HB.out)) hb); clear HB; have HB := n0_; clear n0_; (try clear hb); (try clear hb2); (try clear hk); (try clear hi)) | ((with_reducible refine gate_callee (f := 11) rfl ?_); refine goesL_ (some 10) rfl rfl Tryd.func11 (by kernel_rfl) rfl #[.int .u64 a0, .int .u64 a1] rfl (by (try simp only [List.map_toArray, List.map_cons, List.map_nil]); first | done | rfl | (simp only [List.length_drop, List.length_take]; rfl)) ?_; (with_reducible refine (foundryref01_Equal.calls k a0 a1 false _ A4.out).mono ?_); rintro e w' ⟨rfl, ⟨nd, rfl⟩⟩; refine ⟨_, rfl, ?_⟩) | (go_at_call 12; (with_reducible refine (floats_Less.calls a0 a1 false _ A85.out).mono ?_); rintro e w154 ⟨rfl, hb⟩; have n0_ := Aside0.mk (below_step (by repeat (first | (with_reducible first | exact HB.out | apply below_alloc | apply pw_below_drewN | apply below_drew1) | exact HB.out)) hb); clear HB; have HB := n0_; clear n0_; (try clear hb); (try clear hb2); (try clear hk); (try clear hi)) | (go_at_call 13; (with_reducible refine (foundryref01_Less.calls k a0 a1 false _ A86.out).mono ?_); rintro e w' ⟨rfl, ⟨nd, rfl⟩⟩) | (go_at_call 14; (with_reducible refine (floats_LessEq.calls a0 a1 false _ A127.out).mono ?_); rintro e w155 ⟨rfl, hb⟩; have n0_ := Aside0.mk (below_step (by repeat (first | (with_reducible first | exact HB.out | apply below_alloc | apply pw_below_drewN | apply below_drew1) | exact HB.out)) hb); clear HB; have HB := n0_; clear n0_; (try clear hb); (try clear hb2); (try clear hk); (try clear hi)) | (go_at_call 15; (with_reducible refine (foundryref01_LessEq.calls k a0 a1 false _ A128.out).mono ?_); rintro e w' ⟨rfl, ⟨nd, rfl⟩⟩) | (go_at_call 16; (with_reducible refine (floats_Compare.calls a0 a1 t178 _ A149.out).mono ?_); rintro e w' ⟨rfl, ⟨nd, rfl⟩⟩) | (go_at_call 17; (with_reducible refine (foundryref01_Compare.calls k a0 a1 t179 _ A150.out).mono ?_); rintro e w' ⟨rfl, ⟨nd, rfl⟩⟩) | (go_at_call 18; (with_reducible refine (foundrylaw01_alive.calls k  t180 _ A152.out).mono ?_); rintro e w156 ⟨rfl, hb⟩; have n0_ := Aside0.mk (below_step (by repeat (first | (with_reducible first | exact HB.out | apply below_alloc | apply pw_below_drewN | apply below_drew1) | exact HB.out)) hb); clear HB; have HB := n0_; clear n0_; (try clear hb); (try clear hb2); (try clear hk); (try clear hi)))
                go_ret
                exact ⟨by first | rfl | (simp [errW_none, errW_some] <;> rfl) | (simp [*, errW_none, errW_some] <;> rfl), by repeat (first | (with_reducible first | exact HB.out | apply below_alloc | apply pw_below_drewN | apply below_drew1) | exact HB.out)⟩
              · rw [if_neg c151] at H
                have c151b0 : (t178 == t179) = false := beq_eq_false_iff_ne.mpr c151
                have c151b1 : (t178 != t179) = true := bne_iff_ne.mpr c151
                obtain rfl := Option.some.inj H
                go_enter Tryd.func3, Tryd.ntmps3
                go_wp2_with (first | ((with_reducible refine gate_callee (f := 10) rfl ?_); refine goesL_ (some 7) rfl rfl Tryd.func10 (by kernel_rfl) rfl #[.int .u64 a0, .int .u64 a1] rfl (by (try simp only [List.map_toArray, List.map_cons, List.map_nil]); first | done | rfl | (simp only [List.length_drop, List.length_take]; rfl)) ?_; (with_reducible refine (floats_Equal.calls a0 a1 false _ A3.out).mono ?_); rintro e w157 ⟨rfl, hb⟩; refine ⟨_, rfl, ?_⟩; have n0_ := Aside0.mk (below_step (by repeat (first | (with_reducible first | exact HB.out | apply below_alloc | apply pw_below_drewN | apply below_drew1) | exact HB.out)) hb); clear HB; have HB := n0_; clear n0_; (try clear hb); (try clear hb2); (try clear hk); (try clear hi)) | ((with_reducible refine gate_callee (f := 11) rfl ?_); refine goesL_ (some 10) rfl rfl Tryd.func11 (by kernel_rfl) rfl #[.int .u64 a0, .int .u64 a1] rfl (by (try simp only [List.map_toArray, List.map_cons, List.map_nil]); first | done | rfl | (simp only [List.length_drop, List.length_take]; rfl)) ?_; (with_reducible refine (foundryref01_Equal.calls k a0 a1 false _ A4.out).mono ?_); rintro e w' ⟨rfl, ⟨nd, rfl⟩⟩; refine ⟨_, rfl, ?_⟩) | (go_at_call 12; (with_reducible refine (floats_Less.calls a0 a1 false _ A85.out).mono ?_); rintro e w158 ⟨rfl, hb⟩; have n0_ := Aside0.mk (below_step (by repeat (first | (with_reducible first | exact HB.out | apply below_alloc | apply pw_below_drewN | apply below_drew1) | exact HB.out)) hb); clear HB; have HB := n0_; clear n0_; (try clear hb); (try clear hb2); (try clear hk); (try clear hi)) | (go_at_call 13; (with_reducible refine (foundryref01_Less.calls k a0 a1 false _ A86.out).mono ?_); rintro e w' ⟨rfl, ⟨nd, rfl⟩⟩) | (go_at_call 14; (with_reducible refine (floats_LessEq.calls a0 a1 false _ A127.out).mono ?_); rintro e w159 ⟨rfl, hb⟩; have n0_ := Aside0.mk (below_step (by repeat (first | (with_reducible first | exact HB.out | apply below_alloc | apply pw_below_drewN | apply below_drew1) | exact HB.out)) hb); clear HB; have HB := n0_; clear n0_; (try clear hb); (try clear hb2); (try clear hk); (try clear hi)) | (go_at_call 15; (with_reducible refine (foundryref01_LessEq.calls k a0 a1 false _ A128.out).mono ?_); rintro e w' ⟨rfl, ⟨nd, rfl⟩⟩) | (go_at_call 16; (with_reducible refine (floats_Compare.calls a0 a1 t178 _ A149.out).mono ?_); rintro e w' ⟨rfl, ⟨nd, rfl⟩⟩) | (go_at_call 17; (with_reducible refine (foundryref01_Compare.calls k a0 a1 t179 _ A150.out).mono ?_); rintro e w' ⟨rfl, ⟨nd, rfl⟩⟩))
                go_ret
                exact ⟨by first | rfl | (simp [errW_none, errW_some] <;> rfl) | (simp [*, errW_none, errW_some] <;> rfl), by repeat (first | (with_reducible first | exact HB.out | apply below_alloc | apply pw_below_drewN | apply below_drew1) | exact HB.out)⟩

/-- THE ONE PURE STATEMENT of foundrylaw01_FloatsOrders: yours. -/
def foundrylaw01_FloatsOrders.Pure : Prop := ∀ (a0 : Int) (a1 : Int), (Lit.int .u64 a0).wf = true → (Lit.int .u64 a1).wf = true → ∃ k, foundrylaw01_FloatsOrders.f k a0 a1 = some true
theorem foundrylaw01_FloatsOrders.walk (P : foundrylaw01_FloatsOrders.Pure) (a0 : Int) (a1 : Int) (w : World) (w0 : (Lit.int .u64 a0).wf = true) (w1 : (Lit.int .u64 a1).wf = true) :
    Calls Tryd.prog 3 #[.int .u64 a0, .int .u64 a1] w fun e w' => e = .returned (.bool true) ∧ Below w.heap.size w w' := by
  obtain ⟨k, h⟩ := P a0 a1 w0 w1
  refine (foundrylaw01_FloatsOrders.calls k a0 a1 true w h).mono ?_
  rintro e w' ⟨rfl, hd⟩
  exact ⟨rfl, hd⟩

end Go.Proofs.YtlhmjmfcngegnaaDoor.QA
