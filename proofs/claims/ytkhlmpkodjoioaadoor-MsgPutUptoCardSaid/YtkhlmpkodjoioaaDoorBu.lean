/- What is built: by program (facts.py). -/
import Derived.Test.YtkhlmpkodjoioaaDoorTy
import Derived.Test.YtkhlmpkodjoioaaDoorMp
namespace Go.Proofs.YtkhlmpkodjoioaaDoor
instance : Bu Tryd.prog 7 [(0, 1), (1, 1), (2, 1), (3, 1)] := ⟨by kernel_rfl⟩
instance : Bu Tryd.prog 8 [(0, 1), (1, 1), (2, 1), (3, 1)] := ⟨by kernel_rfl⟩
instance : Bu Tryd.prog 13 [(0, 1), (1, 1)] := ⟨by kernel_rfl⟩
instance : Bu Tryd.prog 14 [(0, 1), (1, 1)] := ⟨by kernel_rfl⟩
instance : Bu Tryd.prog 18 [(0, 1)] := ⟨by kernel_rfl⟩
instance : Bu Tryd.prog 19 [(0, 1)] := ⟨by kernel_rfl⟩
instance : Bu Tryd.prog 31 [(0, 1)] := ⟨by kernel_rfl⟩
instance : Bu Tryd.prog 32 [(0, 1)] := ⟨by kernel_rfl⟩
instance : Bu Tryd.prog 41 [(0, 1), (1, 1)] := ⟨by kernel_rfl⟩
instance : Bu Tryd.prog 42 [(0, 1), (1, 1)] := ⟨by kernel_rfl⟩
instance : Bu Tryd.prog 45 [(0, 1), (1, 1), (2, 1), (3, 1), (4, 1), (5, 1), (6, 1), (7, 1), (8, 1), (9, 1), (10, 1), (11, 1)] := ⟨by kernel_rfl⟩
instance : Bu Tryd.prog 46 [(0, 1), (1, 1), (2, 1), (3, 1), (4, 1), (5, 1), (6, 1), (7, 1), (8, 1), (9, 1), (10, 1), (11, 1)] := ⟨by kernel_rfl⟩
instance : Bu Tryd.prog 49 [(0, 1), (1, 1), (2, 1), (3, 1), (4, 1), (5, 1), (6, 1), (7, 1), (8, 1), (9, 1), (10, 1), (11, 1)] := ⟨by kernel_rfl⟩
instance : Bu Tryd.prog 60 [(0, 1), (1, 1), (2, 1), (3, 1)] := ⟨by kernel_rfl⟩
instance : Bu Tryd.prog 61 [(0, 1), (1, 1), (2, 1), (3, 1)] := ⟨by kernel_rfl⟩
instance : Bu Tryd.prog 80 [(0, 1), (1, 1)] := ⟨by kernel_rfl⟩
instance : Bu Tryd.prog 81 [(0, 1), (1, 1)] := ⟨by kernel_rfl⟩
instance : Bu Tryd.prog 85 [(0, 1), (1, 1)] := ⟨by kernel_rfl⟩
instance : Bu Tryd.prog 86 [(0, 1), (1, 1)] := ⟨by kernel_rfl⟩
instance : Bu Tryd.prog 98 [(0, 1), (1, 1), (2, 1), (3, 1)] := ⟨by kernel_rfl⟩
instance : Bu Tryd.prog 105 [(0, 1), (1, 1), (2, 1)] := ⟨by kernel_rfl⟩
instance : Bu Tryd.prog 106 [(0, 1), (1, 1), (2, 1)] := ⟨by kernel_rfl⟩
instance : Bu Tryd.prog 111 [(0, 1), (1, 1), (2, 1)] := ⟨by kernel_rfl⟩
instance : Bu Tryd.prog 112 [(0, 1), (1, 1), (2, 1)] := ⟨by kernel_rfl⟩
instance : Bu Tryd.prog 114 [(0, 1), (1, 1), (2, 1)] := ⟨by kernel_rfl⟩
instance : Bu Tryd.prog 119 [(0, 1), (1, 1)] := ⟨by kernel_rfl⟩
instance : Bu Tryd.prog 120 [(0, 1), (1, 1)] := ⟨by kernel_rfl⟩
instance : Bu Tryd.prog 160 [(0, 1), (1, 1)] := ⟨by kernel_rfl⟩
instance : Bu Tryd.prog 161 [(0, 1), (1, 1)] := ⟨by kernel_rfl⟩
instance : Bu Tryd.prog 162 [(0, 2), (2, 2), (4, 2), (6, 2), (8, 2), (10, 2), (12, 2), (14, 2), (16, 2), (18, 2), (20, 2), (22, 2), (24, 2), (26, 2), (28, 2), (30, 2)] := ⟨by kernel_rfl⟩
instance : Bu Tryd.prog 167 [(0, 1), (1, 1), (2, 1), (3, 1)] := ⟨by kernel_rfl⟩
instance : Bu Tryd.prog 168 [(0, 1), (1, 1), (2, 1), (3, 1)] := ⟨by kernel_rfl⟩
instance : Bu Tryd.prog 169 [] := ⟨by kernel_rfl⟩
instance : Bu Tryd.prog 170 [(0, 0)] := ⟨by kernel_rfl⟩
instance : Bu Tryd.prog 171 [(0, 0)] := ⟨by kernel_rfl⟩
instance : Bu Tryd.prog 177 [(0, 1), (1, 1), (2, 1), (3, 1), (4, 1), (5, 1), (6, 1), (7, 1), (8, 1), (9, 1), (10, 1)] := ⟨by kernel_rfl⟩
instance : Bu Tryd.prog 178 [(0, 1), (1, 1), (2, 1), (3, 1), (4, 1), (5, 1), (6, 1), (7, 1), (8, 1), (9, 1), (10, 1)] := ⟨by kernel_rfl⟩
end Go.Proofs.YtkhlmpkodjoioaaDoor
