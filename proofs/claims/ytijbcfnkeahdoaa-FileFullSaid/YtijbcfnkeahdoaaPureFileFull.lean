import Derived.Test.YtijbcfnkeahdoaaPAllx1
namespace Go.Proofs.Ytijbcfnkeahdoaa.Pure
open Go.RowKit Go.Proofs.Ytijbcfnkeahdoaa.PAll Go.Proofs.YtijbcfnkeahdoaaW.PrintWords Go.Proofs.YtijbcfnkeahdoaaW.PrintLast

theorem FileFull : warrantorlaw28_FileFull.Pure := fun _ _ _ _ => rfl

end Go.Proofs.Ytijbcfnkeahdoaa.Pure
