/- Functions of the translation as plain Lean functions, and for each the proof that the machine's call does what that function says (laid by wip/tools/myprint.py of this session, by way of the print). -/
import Derived.Test.YtijbcfnkeahdoaaPAllx0
namespace Go.Proofs.Ytijbcfnkeahdoaa.PAll
open Go.RowKit Go.Proofs.YtijbcfnkeahdoaaW.PrintWords Go.Proofs.YtijbcfnkeahdoaaW.PrintLast Go.Proofs.YtijbcfnkeahdoaaW.PrintMore
attribute [local go_sem] max2_int min2_int max_two min_two max_three min_three max_four min_four   -- for this text's walks alone
set_option linter.unusedVariables false
set_option linter.unusedSimpArgs false

-- NOT PRINTED: function 9 (file_New)

-- NOT PRINTED: function 13 (file_Disk_Arm)

-- NOT PRINTED: function 28 (file_Disk_check)

-- NOT PRINTED: function 29 (file_Disk_pay)

-- NOT PRINTED: function 14 (file_Disk_Write)

-- NOT PRINTED: function 15 (file_Disk_Wake)

-- NOT PRINTED: function 31 (slices_Clone_byte_byte)

-- NOT PRINTED: function 16 (file_Disk_Read)

-- NOT PRINTED: function 17 (file_Disk_Spoil)

-- NOT PRINTED: function 19 (file_Disk_Cut)

-- NOT PRINTED: function 18 (file_Disk_Clear)

-- NOT PRINTED: function 20 (file_Disk_Off)

-- NOT PRINTED: function 8 (warrantorlaw28_lives)


/-! ### warrantorlaw28_FileNobody: function 6 -/
def warrantorlaw28_FileNobody.f (a0 : Int) (a1 : Int) : Option (Bool) := some true
theorem warrantorlaw28_FileNobody.calls (a0 : Int) (a1 : Int) (r : Bool) (w : World) (h : warrantorlaw28_FileNobody.f a0 a1 = some r) :
    Calls Try.prog 6 #[.int .i64 a0, .int .i64 a1] w fun e w' => e = .returned (.bool r) ∧ Below w.heap.size w w' := by
  obtain rfl := Option.some.inj h
  exact Go.Proofs.Ytijbcfnkeahdoaa.Disk.nobody_calls a0 a1 w


/-- THE ONE PURE STATEMENT of warrantorlaw28_FileNobody. -/
def warrantorlaw28_FileNobody.Pure : Prop := ∀ (a0 : Int) (a1 : Int), (Lit.int .i64 a0).wf = true → (Lit.int .i64 a1).wf = true → warrantorlaw28_FileNobody.f a0 a1 = some true
theorem warrantorlaw28_FileNobody.walk (P : warrantorlaw28_FileNobody.Pure) (a0 : Int) (a1 : Int) (w : World) (w0 : (Lit.int .i64 a0).wf = true) (w1 : (Lit.int .i64 a1).wf = true) :
    Calls Try.prog 6 #[.int .i64 a0, .int .i64 a1] w fun e w' => e = .returned (.bool true) ∧ Below w.heap.size w w' := by
  have h := P a0 a1 w0 w1
  exact warrantorlaw28_FileNobody.calls a0 a1 true w h


/-! ### warrantorlaw28_FileFull: function 5 -/
def warrantorlaw28_FileFull.f (a0 : Int) (a1 : Int) : Option (Bool) := some true
theorem warrantorlaw28_FileFull.calls (a0 : Int) (a1 : Int) (r : Bool) (w : World) (h : warrantorlaw28_FileFull.f a0 a1 = some r) :
    Calls Try.prog 5 #[.int .i64 a0, .int .i64 a1] w fun e w' => e = .returned (.bool r) ∧ Below w.heap.size w w' := by
  obtain rfl := Option.some.inj h
  exact Go.Proofs.Ytijbcfnkeahdoaa.Disk.full_calls a0 a1 w


/-- THE ONE PURE STATEMENT of warrantorlaw28_FileFull. -/
def warrantorlaw28_FileFull.Pure : Prop := ∀ (a0 : Int) (a1 : Int), (Lit.int .i64 a0).wf = true → (Lit.int .i64 a1).wf = true → warrantorlaw28_FileFull.f a0 a1 = some true
theorem warrantorlaw28_FileFull.walk (P : warrantorlaw28_FileFull.Pure) (a0 : Int) (a1 : Int) (w : World) (w0 : (Lit.int .i64 a0).wf = true) (w1 : (Lit.int .i64 a1).wf = true) :
    Calls Try.prog 5 #[.int .i64 a0, .int .i64 a1] w fun e w' => e = .returned (.bool true) ∧ Below w.heap.size w w' := by
  have h := P a0 a1 w0 w1
  exact warrantorlaw28_FileFull.calls a0 a1 true w h

end Go.Proofs.Ytijbcfnkeahdoaa.PAll
