/- LebPuts: what is put of any number is the document's bytes, of the size that Size tells, and is got again, whatever stands behind it. No condition. -/
import Derived.Test.YtckfkbhikdoelaaPAllx2
import Derived.Test.YtckfkbhikdoelaaBridge
namespace Go.Proofs.Ytckfkbhikdoelaa.Pure
open Go Go.RowKit Go.Proofs.Ytckfkbhikdoelaa.PAll Go.Proofs.YtckfkbhikdoelaaW.PrintWords Go.Proofs.YtckfkbhikdoelaaW.PrintLast
open Go.Proofs.Ytckfkbhikdoelaa.LebM Go.Proofs.Ytckfkbhikdoelaa.Bridge

theorem LebPuts : warrantorlaw01_LebPuts.Pure := by
  intro n l hn _ _ hb
  have hn := u64_of hn
  have hb := bytes_of hb
  have hpb := putN_byte 9 n hn.1 (by omega)
  have hg := get_put0 l hn.1 hn.2
  have hlen := putN_len_mono 9 n 18446744073709551615 hn.1 (by omega)
  have hmax : (putN 9 18446744073709551615).length = 10 := by decide +kernel
  obtain ⟨K1, e1⟩ := put_ev hn.1 hn.2
  obtain ⟨K2, e2⟩ := rput_ev hn.1 hn.2
  obtain ⟨K3, e3⟩ := size_ev hn.1 hn.2
  obtain ⟨K4, e4⟩ := get_ev (l := putN 9 n ++ l) (by intro x hx; rcases List.mem_append.1 hx with h | h; exact hpb x h; exact hb x h)
  obtain ⟨K5, e5⟩ := lives_ev
  refine ⟨K1 + K2 + K3 + K4 + K5, ?_⟩
  have e1 : leb_Put.f (K1 + K2 + K3 + K4 + K5) n = _ := e1 _ (by omega)
  have e2 : warrantorref01_Put.f (K1 + K2 + K3 + K4 + K5) n = _ := e2 _ (by omega)
  have e3 : leb_Size.f (K1 + K2 + K3 + K4 + K5) n = _ := e3 _ (by omega)
  have e4 : leb_Get.f (K1 + K2 + K3 + K4 + K5) (putN 9 n ++ l) = _ := e4 _ (by omega)
  have e5 : warrantorlaw01_lives.f (K1 + K2 + K3 + K4 + K5) = _ := e5 _ (by omega)
  generalize K1 + K2 + K3 + K4 + K5 = k at *
  unfold warrantorlaw01_LebPuts.f
  by_cases hl : (l.length : Int) > 1000
  · rw [if_pos hl, e5]; rfl
  · rw [if_neg hl, e1]
    simp only [Option.bind_some, List.nil_append, List.length_nil, Nat.zero_add]
    rw [if_pos (by omega), if_pos (by omega), e4, e5, hg, e2, e3]
    simp

end Go.Proofs.Ytckfkbhikdoelaa.Pure
