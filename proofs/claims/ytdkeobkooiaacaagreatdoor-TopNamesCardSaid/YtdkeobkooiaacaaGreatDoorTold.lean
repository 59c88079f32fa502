/- The place of one text in another, told of three pairs, whatever the program's variable of the longest text holds (no condition). -/
import Derived.Test.YtdkeobkooiaacaaGreatDoorEv6
import Derived.Test.YtdkeobkooiaacaaGreatDoorProg
import Derived.Shelf.Strings.Search3
import Derived.KernelRfl
open Go Go.Proofs.YtdkeobkooiaacaaGreatDoor.Ev
namespace Go.Proofs.YtdkeobkooiaacaaGreatDoor.Tab
open Go.Shelf
def ren219 : Ren := ⟨fun | 217 => 658 | 219 => 596 | 224 => 660 | 225 => 659 | 266 => 704 | 267 => 661 | 314 => 705 | n => n, fun | 3 => 3 | 4 => 4 | 5 => 5 | 9 => 9 | 46 => 269 | 51 => 289 | 146 => 716 | n => n, fun | 1 => 1 | n => n⟩
theorem lays219 : Lays.n219 Tryz.prog ren219 := {
  mixed := by kernel_rfl
  f217 := by kernel_rfl
  f219 := by kernel_rfl
  f224 := by kernel_rfl
  f225 := by kernel_rfl
  f266 := by kernel_rfl
  f267 := by kernel_rfl
  f314 := by kernel_rfl
  t3 := by kernel_rfl
  a3 := fun _ => by kernel_rfl
  z3 := fun _ => by kernel_rfl
  v3 := fun _ => by kernel_rfl
  t4 := by kernel_rfl
  a4 := fun _ => by kernel_rfl
  z4 := fun _ => by kernel_rfl
  v4 := fun _ => by kernel_rfl
  t5 := by kernel_rfl
  a5 := fun _ => by kernel_rfl
  z5 := fun _ => by kernel_rfl
  v5 := fun _ => by kernel_rfl
  t9 := by kernel_rfl
  a9 := fun _ => by kernel_rfl
  z9 := fun _ => by kernel_rfl
  v9 := fun _ => by kernel_rfl
  t46 := by kernel_rfl
  a46 := fun _ => by kernel_rfl
  z46 := fun _ => by kernel_rfl
  v46 := fun _ => by kernel_rfl
  t51 := by kernel_rfl
  a51 := fun _ => by kernel_rfl
  z51 := fun _ => by kernel_rfl
  v51 := fun _ => by kernel_rfl
  t146 := by kernel_rfl
  a146 := fun _ => by kernel_rfl
  z146 := fun _ => by kernel_rfl
  v146 := fun _ => by kernel_rfl
  g1 := by kernel_rfl }
instance glob : Glob := ⟨1⟩
theorem bytes_of {s : List Nat} {b : ByteArray} (h : bytesNat b = s) : b.data.toList = s.map UInt8.ofNat := by
  rw [← h, bytesNat, List.map_map]
  conv => lhs; rw [← List.map_id b.data.toList]
  refine List.map_congr_left fun x _ => ?_
  simp
/-- The place of one text in another, told. -/
theorem told_ok {s t : List Nat} {i : Int} (hs : s.length < 4294967281) (hi : Lib.index (s.map UInt8.ofNat) (t.map UInt8.ofNat) = i) : MemoOk Tryz.prog 596 ⟨[.str s, .str t], [], .int .i64 i, [], 0⟩ := by
  refine ⟨fun a h1 h2 => ?_, fun ρ w vs _ hw ha => ?_⟩
  · rw [Memo.n1_toNat] at h2
    simp at h2
    omega
  · obtain ⟨y, ys, ey, hy, z, zs, ez, hz, hzs⟩ := ha
    simp only [VRs] at hzs
    subst hzs ez
    simp only [VR] at hy hz
    obtain ⟨bs, rfl, hbs⟩ := hy
    obtain ⟨bt, rfl, hbt⟩ := hz
    have ev : vs = #[.string bs, .string bt] := by rw [← Array.toArray_toList (xs := vs), ey]
    subst ev
    obtain ⟨m, ty, fr, cs, h1, h2⟩ := hw.glo
    have hm : w.cell? ⟨1, 0, none⟩ = some (.int .i64 m) := by
      unfold World.cell?
      rw [show w.heap[(⟨1, 0, none⟩ : Addr).block]? = some (.cells cs ty fr) from h1]
      simpa using h2
    have hsz : bs.size < 4294967281 := by
      have : bs.size = s.length := by rw [← hbs]; simp [bytesNat]
      omega
    refine .inr ⟨enters_of (fn := Tryz.f596) (by kernel_rfl) (by kernel_rfl) rfl _ _, callsIn_wide.2 ?_⟩
    refine (Any.stringslite_Index lays219 bs bt m w hsz hm).mono ?_
    rintro e w' ⟨rfl, rfl⟩
    rw [bytes_of hbs, bytes_of hbt, hi]
    exact ⟨_, ρ, rfl, .refl _ ρ, by simp only [VR], hw, .refl ρ _ _⟩
theorem told0 : MemoOk Tryz.prog 596 ⟨[.str [105, 32, 45, 32, 110, 32, 60, 61, 32, 48], .str [32, 60, 61, 32]], [], .int .i64 5, [], 0⟩ := told_ok (by decide) (by decide)
theorem told1 : MemoOk Tryz.prog 596 ⟨[.str [105, 32, 45, 32, 110], .str [32, 45, 32]], [], .int .i64 1, [], 0⟩ := told_ok (by decide) (by decide)
theorem told2 : MemoOk Tryz.prog 596 ⟨[.str [105, 45, 110, 60, 61, 48], .str [60, 61]], [], .int .i64 3, [], 0⟩ := told_ok (by decide) (by decide)
end Go.Proofs.YtdkeobkooiaacaaGreatDoor.Tab
