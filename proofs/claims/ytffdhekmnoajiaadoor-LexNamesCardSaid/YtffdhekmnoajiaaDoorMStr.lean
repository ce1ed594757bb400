import Derived.Test.YtffdhekmnoajiaaDoorWMore
import Derived.Lib.Strings
/- texts as lists of bytes -/
set_option linter.unusedVariables false
set_option linter.unusedSimpArgs false
namespace Go.Proofs.YtffdhekmnoajiaaDoor.M
open Go.RowKit Go.Proofs.YtffdhekmnoajiaaDoorW.PrintWords
def bs (l : List UInt8) : ByteArray := ⟨l.toArray⟩
theorem bs_data (s : ByteArray) : bs s.data.toList = s := by obtain ⟨⟨l⟩⟩ := s; rfl
theorem bs_eta (s : ByteArray) : ∃ l, s = bs l := ⟨s.data.toList, (bs_data s).symm⟩
theorem bs_size (l : List UInt8) : (bs l).size = l.length := by show l.toArray.size = _; simp
theorem bs_toList (l : List UInt8) : (bs l).toList = l := by rw [Lib.toList_data]; rfl
theorem bs_dataL (l : List UInt8) : (bs l).data.toList = l := rfl
theorem bs_inj {a b : List UInt8} (h : bs a = bs b) : a = b := by rw [← bs_toList a, h, bs_toList]
theorem bs_append (a b : List UInt8) : bs a ++ bs b = bs (a ++ b) := by
  apply ByteArray.ext
  show _ = (a ++ b).toArray
  rw [ByteArray.data_append]; simp [bs]
theorem bs_extract (l : List UInt8) (a b : Nat) : (bs l).extract a b = bs ((l.drop a).take (b - a)) := by
  have h := Lib.extract_toList (bs l) a b
  rw [Lib.toList_data] at h
  rw [← bs_data ((bs l).extract a b), h]; rfl
theorem bt_bs {P R : List UInt8} {c : UInt8} {i : Int} (hi : i = P.length) : bt (bs (P ++ c :: R)) i = c.toNat := by
  subst hi
  unfold bt
  have hlt : (P.length : Int).toNat < (bs (P ++ c :: R)).size := by rw [bs_size]; simp
  rw [dif_pos hlt]
  have : (bs (P ++ c :: R))[(P.length : Int).toNat]'hlt = (P ++ c :: R)[P.length]'(by simp) := by
    show (P ++ c :: R).toArray[(P.length : Int).toNat]'(by simp) = _
    simp
  rw [this]; simp
theorem bt0_bs {R : List UInt8} {c : UInt8} : bt (bs (c :: R)) 0 = c.toNat := bt_bs (P := []) rfl
end Go.Proofs.YtffdhekmnoajiaaDoor.M
