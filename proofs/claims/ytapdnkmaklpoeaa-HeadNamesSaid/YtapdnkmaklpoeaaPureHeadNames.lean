/- HeadNames: the examples; the limits. Closed. -/
import Derived.Test.YtapdnkmaklpoeaaHeadGet
import Derived.Test.YtapdnkmaklpoeaaPHeadx35
namespace Go.Proofs.Ytapdnkmaklpoeaa.Pure
open Go.RowKit Go.Proofs.Ytapdnkmaklpoeaa.PHead Go.Proofs.YtapdnkmaklpoeaaW.PrintWords Go.Proofs.YtapdnkmaklpoeaaW.PrintLast Go.Proofs.YtapdnkmaklpoeaaW.PrintMore Go.Proofs.Ytapdnkmaklpoeaa.Pb Go.Proofs.Ytapdnkmaklpoeaa.Hw
theorem names_with (big full : ByteArray) (h1 : big.size = 1048577) (h2 : full.size = 1048576) : (head_Make.f 40 0 (⟨#[]⟩ : ByteArray)).bind (fun bt166 => ((head_Make.f 40 10 (⟨#[]⟩ : ByteArray)).bind fun bt168 => (if 1048577 ≤ 281474976710656 then ((head_Make.f 40 9 big).bind fun bt173 => (if 1048576 ≤ 281474976710656 then ((head_Make.f 40 9 full).bind fun bt178 => ((head_Get.f 40 bt178.1).bind fun bt180 => (if bt166.2 = 1 then (if bt168.2 = 1 then (if bt173.2 = 40 then (if bt178.2 = 0 then (if bt180.2.2.1 = (bt178.1.size : Int) then (if bt180.2.2.2 = 0 then ((hamperlaw20_awake.f).bind fun t185 => (some t185)) else (some false)) else (some false)) else (some false)) else (some false)) else (some false)) else (some false)))) else (none))) else (none)))) = some true := by
  have hf : Fit 9 full := ⟨by decide, by decide, Nat.le_of_eq h2⟩
  have hb : ¬ big.size ≤ 1048576 := by rw [h1]; decide
  have hg : head_Get.f 40 (made 9 full) = some (9, full, ((made 9 full).size : Int), 0) := by
    have h := get_made 40 (by decide) 9 full ⟨#[]⟩ hf (by
      rw [app_nil, made_size]
      have := Go.Proofs.Ytapdnkmaklpoeaa.Vm.enc_len9 (n := full.size) (by rw [h2]; decide)
      omega)
    rwa [app_nil] at h
  refine bind_eq (make_kind 39 0 ⟨#[]⟩ (by decide)) (bind_eq (make_kind 39 10 ⟨#[]⟩ (by decide)) (ite_yes (by decide) (bind_eq (make_long 39 9 big (by decide) hb) (ite_yes (by decide) (bind_eq (make_ok 40 (by decide) 9 full hf) (bind_eq hg ?_))))))
  exact ite_yes rfl (ite_yes rfl (ite_yes rfl (ite_yes rfl (ite_yes rfl (ite_yes rfl (bind_eq awake_yes rfl))))))
theorem HeadNames : hamperlaw20_HeadNames.Pure := by
  refine ⟨40, ?_⟩
  unfold hamperlaw20_HeadNames.f
  exact names_with _ _ (by rw [size_nums, List.length_replicate]) (by rw [size_nums, List.length_replicate])
end Go.Proofs.Ytapdnkmaklpoeaa.Pure
