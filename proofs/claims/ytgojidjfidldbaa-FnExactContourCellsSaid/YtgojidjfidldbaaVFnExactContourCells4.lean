-- Written by this session's texts and program for this claim. Lean checks it.
import Derived.Test.YtgojidjfidldbaaProg
import Derived.KernelRfl
import Derived.Test.YtgojidjfidldbaaVFnExactContourCells3
set_option autoImplicit true
set_option relaxedAutoImplicit true
namespace Go.Proofs.Ytgojidjfidldbaa.EngS
open Go Go.Proofs Go.Eng
def T : Nat → Option TI
  | 2 => some ⟨.int .i64, 1, false, [.sc (.int .i64 0)]⟩
  | 3 => some ⟨.int .i64, 1, false, [.sc (.int .i64 0)]⟩
  | 4 => some ⟨.bool, 1, false, [.sc (.bool false)]⟩
  | 5 => some ⟨.int .u8, 1, false, [.sc (.int .u8 0)]⟩
  | 6 => some ⟨.int .u8, 1, false, [.sc (.int .u8 0)]⟩
  | 8 => some ⟨.st [(0, 1, false), (1, 1, false), (2, 1, false), (3, 1, false)], 4, true, [.sc (.int .i64 0), .sc (.int .i64 0), .sc (.bool false), .sc (.int .u8 0)]⟩
  | 9 => some ⟨.str, 1, false, [.sc (.string ⟨#[]⟩)]⟩
  | 10 => some ⟨.str, 1, false, [.sc (.string ⟨#[]⟩)]⟩
  | 11 => some ⟨.str, 1, false, [.sc (.string ⟨#[]⟩)]⟩
  | 12 => some ⟨.int .u64, 1, false, [.sc (.int .u64 0)]⟩
  | 14 => some ⟨.st [(0, 1, false), (1, 1, false)], 2, true, [.sc (.string ⟨#[]⟩), .sc (.int .u64 0)]⟩
  | 15 => some ⟨.oth, 1, false, [.sc (.pointer none)]⟩
  | 16 => some ⟨.oth, 1, false, [.sc (.pointer none)]⟩
  | 17 => some ⟨.oth, 1, false, [.sc (.pointer none)]⟩
  | 19 => some ⟨.st [(0, 1, false)], 1, true, [.sc (.pointer none)]⟩
  | 20 => some ⟨.oth, 1, false, [.sc .nilIface]⟩
  | 22 => some ⟨.sl 3 1 8, 1, false, [.sl false 1 []]⟩
  | 24 => some ⟨.st [(0, 1, false), (1, 1, false), (2, 1, false)], 3, true, [.sc (.int .i64 0), .sc (.int .i64 0), .sl false 1 []]⟩
  | 27 => some ⟨.st [(0, 1, false), (1, 1, false), (2, 1, false)], 3, true, [.sc (.int .i64 0), .sc (.int .i64 0), .sl false 1 []]⟩
  | 32 => some ⟨.st [(0, 1, false), (1, 1, false), (2, 1, false), (3, 1, false), (4, 1, false)], 5, true, [.sc (.int .i64 0), .sc (.int .i64 0), .sl false 1 [], .sc (.string ⟨#[]⟩), .sc (.string ⟨#[]⟩)]⟩
  | 35 => some ⟨.st [(0, 1, false), (1, 1, false), (2, 1, false), (3, 1, false), (4, 1, false)], 5, true, [.sc (.int .i64 0), .sc (.int .i64 0), .sl false 1 [], .sc (.string ⟨#[]⟩), .sc (.string ⟨#[]⟩)]⟩
  | 49 => some ⟨.st [(0, 1, false), (1, 1, false)], 2, true, [.sc (.int .i64 0), .sc (.int .i64 0)]⟩
  | 60 => some ⟨.sl 5 1 1, 1, false, [.sl false 1 []]⟩
  | 69 => some ⟨.oth, 1, false, [.sc .nilFunc]⟩
  | 80 => some ⟨.oth, 1, false, [.sc .nilFunc]⟩
  | 81 => some ⟨.oth, 1, false, [.sc (.pointer none)]⟩
  | 82 => some ⟨.int .u64, 1, false, [.sc (.int .u64 0)]⟩
  | 84 => some ⟨.st [(0, 1, false), (1, 1, false), (2, 1, false)], 3, true, [.sl false 1 [], .sc (.int .i64 0), .sc (.int .u64 0)]⟩
  | 89 => some ⟨.int .u64, 1, false, [.sc (.int .u64 0)]⟩
  | 98 => some ⟨.int .u8, 1, false, [.sc (.int .u8 0)]⟩
  | _ => none
def tyTab : List (Nat × TI) := [(2, ⟨.int .i64, 1, false, [.sc (.int .i64 0)]⟩), (3, ⟨.int .i64, 1, false, [.sc (.int .i64 0)]⟩), (4, ⟨.bool, 1, false, [.sc (.bool false)]⟩), (5, ⟨.int .u8, 1, false, [.sc (.int .u8 0)]⟩), (6, ⟨.int .u8, 1, false, [.sc (.int .u8 0)]⟩), (8, ⟨.st [(0, 1, false), (1, 1, false), (2, 1, false), (3, 1, false)], 4, true, [.sc (.int .i64 0), .sc (.int .i64 0), .sc (.bool false), .sc (.int .u8 0)]⟩), (9, ⟨.str, 1, false, [.sc (.string ⟨#[]⟩)]⟩), (10, ⟨.str, 1, false, [.sc (.string ⟨#[]⟩)]⟩), (11, ⟨.str, 1, false, [.sc (.string ⟨#[]⟩)]⟩), (12, ⟨.int .u64, 1, false, [.sc (.int .u64 0)]⟩), (14, ⟨.st [(0, 1, false), (1, 1, false)], 2, true, [.sc (.string ⟨#[]⟩), .sc (.int .u64 0)]⟩), (15, ⟨.oth, 1, false, [.sc (.pointer none)]⟩), (16, ⟨.oth, 1, false, [.sc (.pointer none)]⟩), (17, ⟨.oth, 1, false, [.sc (.pointer none)]⟩), (19, ⟨.st [(0, 1, false)], 1, true, [.sc (.pointer none)]⟩), (20, ⟨.oth, 1, false, [.sc .nilIface]⟩), (22, ⟨.sl 3 1 8, 1, false, [.sl false 1 []]⟩), (24, ⟨.st [(0, 1, false), (1, 1, false), (2, 1, false)], 3, true, [.sc (.int .i64 0), .sc (.int .i64 0), .sl false 1 []]⟩), (27, ⟨.st [(0, 1, false), (1, 1, false), (2, 1, false)], 3, true, [.sc (.int .i64 0), .sc (.int .i64 0), .sl false 1 []]⟩), (32, ⟨.st [(0, 1, false), (1, 1, false), (2, 1, false), (3, 1, false), (4, 1, false)], 5, true, [.sc (.int .i64 0), .sc (.int .i64 0), .sl false 1 [], .sc (.string ⟨#[]⟩), .sc (.string ⟨#[]⟩)]⟩), (35, ⟨.st [(0, 1, false), (1, 1, false), (2, 1, false), (3, 1, false), (4, 1, false)], 5, true, [.sc (.int .i64 0), .sc (.int .i64 0), .sl false 1 [], .sc (.string ⟨#[]⟩), .sc (.string ⟨#[]⟩)]⟩), (49, ⟨.st [(0, 1, false), (1, 1, false)], 2, true, [.sc (.int .i64 0), .sc (.int .i64 0)]⟩), (60, ⟨.sl 5 1 1, 1, false, [.sl false 1 []]⟩), (69, ⟨.oth, 1, false, [.sc .nilFunc]⟩), (80, ⟨.oth, 1, false, [.sc .nilFunc]⟩), (81, ⟨.oth, 1, false, [.sc (.pointer none)]⟩), (82, ⟨.int .u64, 1, false, [.sc (.int .u64 0)]⟩), (84, ⟨.st [(0, 1, false), (1, 1, false), (2, 1, false)], 3, true, [.sl false 1 [], .sc (.int .i64 0), .sc (.int .u64 0)]⟩), (89, ⟨.int .u64, 1, false, [.sc (.int .u64 0)]⟩), (98, ⟨.int .u8, 1, false, [.sc (.int .u8 0)]⟩)]
@[simp] theorem T2 : T 2 = some ⟨.int .i64, 1, false, [.sc (.int .i64 0)]⟩ := rfl
@[simp] theorem T3 : T 3 = some ⟨.int .i64, 1, false, [.sc (.int .i64 0)]⟩ := rfl
@[simp] theorem T4 : T 4 = some ⟨.bool, 1, false, [.sc (.bool false)]⟩ := rfl
@[simp] theorem T5 : T 5 = some ⟨.int .u8, 1, false, [.sc (.int .u8 0)]⟩ := rfl
@[simp] theorem T6 : T 6 = some ⟨.int .u8, 1, false, [.sc (.int .u8 0)]⟩ := rfl
@[simp] theorem T8 : T 8 = some ⟨.st [(0, 1, false), (1, 1, false), (2, 1, false), (3, 1, false)], 4, true, [.sc (.int .i64 0), .sc (.int .i64 0), .sc (.bool false), .sc (.int .u8 0)]⟩ := rfl
@[simp] theorem T9 : T 9 = some ⟨.str, 1, false, [.sc (.string ⟨#[]⟩)]⟩ := rfl
@[simp] theorem T10 : T 10 = some ⟨.str, 1, false, [.sc (.string ⟨#[]⟩)]⟩ := rfl
@[simp] theorem T11 : T 11 = some ⟨.str, 1, false, [.sc (.string ⟨#[]⟩)]⟩ := rfl
@[simp] theorem T12 : T 12 = some ⟨.int .u64, 1, false, [.sc (.int .u64 0)]⟩ := rfl
@[simp] theorem T14 : T 14 = some ⟨.st [(0, 1, false), (1, 1, false)], 2, true, [.sc (.string ⟨#[]⟩), .sc (.int .u64 0)]⟩ := rfl
@[simp] theorem T15 : T 15 = some ⟨.oth, 1, false, [.sc (.pointer none)]⟩ := rfl
@[simp] theorem T16 : T 16 = some ⟨.oth, 1, false, [.sc (.pointer none)]⟩ := rfl
@[simp] theorem T17 : T 17 = some ⟨.oth, 1, false, [.sc (.pointer none)]⟩ := rfl
@[simp] theorem T19 : T 19 = some ⟨.st [(0, 1, false)], 1, true, [.sc (.pointer none)]⟩ := rfl
@[simp] theorem T20 : T 20 = some ⟨.oth, 1, false, [.sc .nilIface]⟩ := rfl
@[simp] theorem T22 : T 22 = some ⟨.sl 3 1 8, 1, false, [.sl false 1 []]⟩ := rfl
@[simp] theorem T24 : T 24 = some ⟨.st [(0, 1, false), (1, 1, false), (2, 1, false)], 3, true, [.sc (.int .i64 0), .sc (.int .i64 0), .sl false 1 []]⟩ := rfl
@[simp] theorem T27 : T 27 = some ⟨.st [(0, 1, false), (1, 1, false), (2, 1, false)], 3, true, [.sc (.int .i64 0), .sc (.int .i64 0), .sl false 1 []]⟩ := rfl
@[simp] theorem T32 : T 32 = some ⟨.st [(0, 1, false), (1, 1, false), (2, 1, false), (3, 1, false), (4, 1, false)], 5, true, [.sc (.int .i64 0), .sc (.int .i64 0), .sl false 1 [], .sc (.string ⟨#[]⟩), .sc (.string ⟨#[]⟩)]⟩ := rfl
@[simp] theorem T35 : T 35 = some ⟨.st [(0, 1, false), (1, 1, false), (2, 1, false), (3, 1, false), (4, 1, false)], 5, true, [.sc (.int .i64 0), .sc (.int .i64 0), .sl false 1 [], .sc (.string ⟨#[]⟩), .sc (.string ⟨#[]⟩)]⟩ := rfl
@[simp] theorem T49 : T 49 = some ⟨.st [(0, 1, false), (1, 1, false)], 2, true, [.sc (.int .i64 0), .sc (.int .i64 0)]⟩ := rfl
@[simp] theorem T60 : T 60 = some ⟨.sl 5 1 1, 1, false, [.sl false 1 []]⟩ := rfl
@[simp] theorem T69 : T 69 = some ⟨.oth, 1, false, [.sc .nilFunc]⟩ := rfl
@[simp] theorem T80 : T 80 = some ⟨.oth, 1, false, [.sc .nilFunc]⟩ := rfl
@[simp] theorem T81 : T 81 = some ⟨.oth, 1, false, [.sc (.pointer none)]⟩ := rfl
@[simp] theorem T82 : T 82 = some ⟨.int .u64, 1, false, [.sc (.int .u64 0)]⟩ := rfl
@[simp] theorem T84 : T 84 = some ⟨.st [(0, 1, false), (1, 1, false), (2, 1, false)], 3, true, [.sl false 1 [], .sc (.int .i64 0), .sc (.int .u64 0)]⟩ := rfl
@[simp] theorem T89 : T 89 = some ⟨.int .u64, 1, false, [.sc (.int .u64 0)]⟩ := rfl
@[simp] theorem T98 : T 98 = some ⟨.int .u8, 1, false, [.sc (.int .u8 0)]⟩ := rfl
theorem tok : TOK Try.prog T := by
  have h : tyTab.all (chkTI Try.prog) = true := by kernel_rfl
  intro t i hi
  refine chkTI_ok (List.all_eq_true.1 h (t, i) ?_)
  unfold T at hi
  split at hi <;> first | (cases hi; simp [tyTab]; done) | cases hi
theorem mixed : Try.prog.follows .mixedOrders = true := by kernel_rfl
@[simp] theorem hb3 : HasBody Try.prog 3 := ⟨Try.f3, Try.func3, by kernel_rfl, by kernel_rfl⟩
@[simp] theorem hb4 : HasBody Try.prog 4 := ⟨Try.f4, Try.func4, by kernel_rfl, by kernel_rfl⟩
@[simp] theorem hb5 : HasBody Try.prog 5 := ⟨Try.f5, Try.func5, by kernel_rfl, by kernel_rfl⟩
@[simp] theorem hb6 : HasBody Try.prog 6 := ⟨Try.f6, Try.func6, by kernel_rfl, by kernel_rfl⟩
@[simp] theorem hb7 : HasBody Try.prog 7 := ⟨Try.f7, Try.func7, by kernel_rfl, by kernel_rfl⟩
@[simp] theorem hb8 : HasBody Try.prog 8 := ⟨Try.f8, Try.func8, by kernel_rfl, by kernel_rfl⟩
@[simp] theorem hb9 : HasBody Try.prog 9 := ⟨Try.f9, Try.func9, by kernel_rfl, by kernel_rfl⟩
@[simp] theorem hb10 : HasBody Try.prog 10 := ⟨Try.f10, Try.func10, by kernel_rfl, by kernel_rfl⟩
@[simp] theorem hb11 : HasBody Try.prog 11 := ⟨Try.f11, Try.func11, by kernel_rfl, by kernel_rfl⟩
@[simp] theorem hb12 : HasBody Try.prog 12 := ⟨Try.f12, Try.func12, by kernel_rfl, by kernel_rfl⟩
@[simp] theorem hb13 : HasBody Try.prog 13 := ⟨Try.f13, Try.func13, by kernel_rfl, by kernel_rfl⟩
@[simp] theorem hb14 : HasBody Try.prog 14 := ⟨Try.f14, Try.func14, by kernel_rfl, by kernel_rfl⟩
@[simp] theorem hb15 : HasBody Try.prog 15 := ⟨Try.f15, Try.func15, by kernel_rfl, by kernel_rfl⟩
@[simp] theorem hb16 : HasBody Try.prog 16 := ⟨Try.f16, Try.func16, by kernel_rfl, by kernel_rfl⟩
@[simp] theorem hb17 : HasBody Try.prog 17 := ⟨Try.f17, Try.func17, by kernel_rfl, by kernel_rfl⟩
@[simp] theorem hb18 : HasBody Try.prog 18 := ⟨Try.f18, Try.func18, by kernel_rfl, by kernel_rfl⟩
@[simp] theorem hb19 : HasBody Try.prog 19 := ⟨Try.f19, Try.func19, by kernel_rfl, by kernel_rfl⟩
@[simp] theorem hb20 : HasBody Try.prog 20 := ⟨Try.f20, Try.func20, by kernel_rfl, by kernel_rfl⟩
@[simp] theorem hb21 : HasBody Try.prog 21 := ⟨Try.f21, Try.func21, by kernel_rfl, by kernel_rfl⟩
@[simp] theorem hb22 : HasBody Try.prog 22 := ⟨Try.f22, Try.func22, by kernel_rfl, by kernel_rfl⟩
@[simp] theorem hb23 : HasBody Try.prog 23 := ⟨Try.f23, Try.func23, by kernel_rfl, by kernel_rfl⟩
@[simp] theorem hb24 : HasBody Try.prog 24 := ⟨Try.f24, Try.func24, by kernel_rfl, by kernel_rfl⟩
@[simp] theorem hb25 : HasBody Try.prog 25 := ⟨Try.f25, Try.func25, by kernel_rfl, by kernel_rfl⟩
@[simp] theorem hb26 : HasBody Try.prog 26 := ⟨Try.f26, Try.func26, by kernel_rfl, by kernel_rfl⟩
@[simp] theorem hb27 : HasBody Try.prog 27 := ⟨Try.f27, Try.func27, by kernel_rfl, by kernel_rfl⟩
@[simp] theorem hb28 : HasBody Try.prog 28 := ⟨Try.f28, Try.func28, by kernel_rfl, by kernel_rfl⟩
@[simp] theorem hb29 : HasBody Try.prog 29 := ⟨Try.f29, Try.func29, by kernel_rfl, by kernel_rfl⟩
@[simp] theorem hb30 : HasBody Try.prog 30 := ⟨Try.f30, Try.func30, by kernel_rfl, by kernel_rfl⟩
@[simp] theorem hb31 : HasBody Try.prog 31 := ⟨Try.f31, Try.func31, by kernel_rfl, by kernel_rfl⟩
@[simp] theorem hb32 : HasBody Try.prog 32 := ⟨Try.f32, Try.func32, by kernel_rfl, by kernel_rfl⟩
@[simp] theorem hb33 : HasBody Try.prog 33 := ⟨Try.f33, Try.func33, by kernel_rfl, by kernel_rfl⟩
@[simp] theorem hb34 : HasBody Try.prog 34 := ⟨Try.f34, Try.func34, by kernel_rfl, by kernel_rfl⟩
@[simp] theorem hb35 : HasBody Try.prog 35 := ⟨Try.f35, Try.func35, by kernel_rfl, by kernel_rfl⟩
@[simp] theorem hb36 : HasBody Try.prog 36 := ⟨Try.f36, Try.func36, by kernel_rfl, by kernel_rfl⟩
@[simp] theorem hb37 : HasBody Try.prog 37 := ⟨Try.f37, Try.func37, by kernel_rfl, by kernel_rfl⟩
@[simp] theorem hb38 : HasBody Try.prog 38 := ⟨Try.f38, Try.func38, by kernel_rfl, by kernel_rfl⟩
@[simp] theorem hb39 : HasBody Try.prog 39 := ⟨Try.f39, Try.func39, by kernel_rfl, by kernel_rfl⟩
@[simp] theorem hb40 : HasBody Try.prog 40 := ⟨Try.f40, Try.func40, by kernel_rfl, by kernel_rfl⟩
@[simp] theorem hb41 : HasBody Try.prog 41 := ⟨Try.f41, Try.func41, by kernel_rfl, by kernel_rfl⟩
@[simp] theorem hb42 : HasBody Try.prog 42 := ⟨Try.f42, Try.func42, by kernel_rfl, by kernel_rfl⟩
@[simp] theorem hb43 : HasBody Try.prog 43 := ⟨Try.f43, Try.func43, by kernel_rfl, by kernel_rfl⟩
@[simp] theorem hb44 : HasBody Try.prog 44 := ⟨Try.f44, Try.func44, by kernel_rfl, by kernel_rfl⟩
@[simp] theorem hb45 : HasBody Try.prog 45 := ⟨Try.f45, Try.func45, by kernel_rfl, by kernel_rfl⟩
@[simp] theorem hb46 : HasBody Try.prog 46 := ⟨Try.f46, Try.func46, by kernel_rfl, by kernel_rfl⟩
@[simp] theorem hb47 : HasBody Try.prog 47 := ⟨Try.f47, Try.func47, by kernel_rfl, by kernel_rfl⟩
@[simp] theorem hb48 : HasBody Try.prog 48 := ⟨Try.f48, Try.func48, by kernel_rfl, by kernel_rfl⟩
@[simp] theorem hb49 : HasBody Try.prog 49 := ⟨Try.f49, Try.func49, by kernel_rfl, by kernel_rfl⟩
@[simp] theorem hb50 : HasBody Try.prog 50 := ⟨Try.f50, Try.func50, by kernel_rfl, by kernel_rfl⟩
@[simp] theorem hb51 : HasBody Try.prog 51 := ⟨Try.f51, Try.func51, by kernel_rfl, by kernel_rfl⟩
@[simp] theorem hb52 : HasBody Try.prog 52 := ⟨Try.f52, Try.func52, by kernel_rfl, by kernel_rfl⟩
@[simp] theorem hb53 : HasBody Try.prog 53 := ⟨Try.f53, Try.func53, by kernel_rfl, by kernel_rfl⟩
@[simp] theorem hb54 : HasBody Try.prog 54 := ⟨Try.f54, Try.func54, by kernel_rfl, by kernel_rfl⟩
@[simp] theorem hb55 : HasBody Try.prog 55 := ⟨Try.f55, Try.func55, by kernel_rfl, by kernel_rfl⟩
@[simp] theorem hb56 : HasBody Try.prog 56 := ⟨Try.f56, Try.func56, by kernel_rfl, by kernel_rfl⟩
@[simp] theorem hb57 : HasBody Try.prog 57 := ⟨Try.f57, Try.func57, by kernel_rfl, by kernel_rfl⟩
@[simp] theorem hb58 : HasBody Try.prog 58 := ⟨Try.f58, Try.func58, by kernel_rfl, by kernel_rfl⟩
@[simp] theorem hb59 : HasBody Try.prog 59 := ⟨Try.f59, Try.func59, by kernel_rfl, by kernel_rfl⟩
@[simp] theorem hb60 : HasBody Try.prog 60 := ⟨Try.f60, Try.func60, by kernel_rfl, by kernel_rfl⟩
@[simp] theorem hb61 : HasBody Try.prog 61 := ⟨Try.f61, Try.func61, by kernel_rfl, by kernel_rfl⟩
@[simp] theorem hb62 : HasBody Try.prog 62 := ⟨Try.f62, Try.func62, by kernel_rfl, by kernel_rfl⟩
@[simp] theorem hb63 : HasBody Try.prog 63 := ⟨Try.f63, Try.func63, by kernel_rfl, by kernel_rfl⟩
@[simp] theorem hb64 : HasBody Try.prog 64 := ⟨Try.f64, Try.func64, by kernel_rfl, by kernel_rfl⟩
@[simp] theorem hb65 : HasBody Try.prog 65 := ⟨Try.f65, Try.func65, by kernel_rfl, by kernel_rfl⟩
@[simp] theorem hb66 : HasBody Try.prog 66 := ⟨Try.f66, Try.func66, by kernel_rfl, by kernel_rfl⟩
@[simp] theorem hb67 : HasBody Try.prog 67 := ⟨Try.f67, Try.func67, by kernel_rfl, by kernel_rfl⟩
@[simp] theorem hb68 : HasBody Try.prog 68 := ⟨Try.f68, Try.func68, by kernel_rfl, by kernel_rfl⟩
@[simp] theorem hb69 : HasBody Try.prog 69 := ⟨Try.f69, Try.func69, by kernel_rfl, by kernel_rfl⟩
@[simp] theorem hb70 : HasBody Try.prog 70 := ⟨Try.f70, Try.func70, by kernel_rfl, by kernel_rfl⟩
@[simp] theorem hb71 : HasBody Try.prog 71 := ⟨Try.f71, Try.func71, by kernel_rfl, by kernel_rfl⟩
@[simp] theorem hb72 : HasBody Try.prog 72 := ⟨Try.f72, Try.func72, by kernel_rfl, by kernel_rfl⟩
@[simp] theorem hb73 : HasBody Try.prog 73 := ⟨Try.f73, Try.func73, by kernel_rfl, by kernel_rfl⟩
@[simp] theorem hb74 : HasBody Try.prog 74 := ⟨Try.f74, Try.func74, by kernel_rfl, by kernel_rfl⟩
@[simp] theorem hb75 : HasBody Try.prog 75 := ⟨Try.f75, Try.func75, by kernel_rfl, by kernel_rfl⟩
@[simp] theorem hb76 : HasBody Try.prog 76 := ⟨Try.f76, Try.func76, by kernel_rfl, by kernel_rfl⟩
@[simp] theorem hb77 : HasBody Try.prog 77 := ⟨Try.f77, Try.func77, by kernel_rfl, by kernel_rfl⟩
@[simp] theorem hb78 : HasBody Try.prog 78 := ⟨Try.f78, Try.func78, by kernel_rfl, by kernel_rfl⟩
@[simp] theorem hb79 : HasBody Try.prog 79 := ⟨Try.f79, Try.func79, by kernel_rfl, by kernel_rfl⟩
@[simp] theorem hb80 : HasBody Try.prog 80 := ⟨Try.f80, Try.func80, by kernel_rfl, by kernel_rfl⟩
@[simp] theorem hb81 : HasBody Try.prog 81 := ⟨Try.f81, Try.func81, by kernel_rfl, by kernel_rfl⟩
@[simp] theorem hb82 : HasBody Try.prog 82 := ⟨Try.f82, Try.func82, by kernel_rfl, by kernel_rfl⟩
@[simp] theorem hb83 : HasBody Try.prog 83 := ⟨Try.f83, Try.func83, by kernel_rfl, by kernel_rfl⟩
@[simp] theorem hb84 : HasBody Try.prog 84 := ⟨Try.f84, Try.func84, by kernel_rfl, by kernel_rfl⟩
@[simp] theorem hb85 : HasBody Try.prog 85 := ⟨Try.f85, Try.func85, by kernel_rfl, by kernel_rfl⟩
@[simp] theorem hb86 : HasBody Try.prog 86 := ⟨Try.f86, Try.func86, by kernel_rfl, by kernel_rfl⟩
@[simp] theorem hb87 : HasBody Try.prog 87 := ⟨Try.f87, Try.func87, by kernel_rfl, by kernel_rfl⟩
@[simp] theorem hb88 : HasBody Try.prog 88 := ⟨Try.f88, Try.func88, by kernel_rfl, by kernel_rfl⟩
@[simp] theorem hb89 : HasBody Try.prog 89 := ⟨Try.f89, Try.func89, by kernel_rfl, by kernel_rfl⟩
@[simp] theorem hb90 : HasBody Try.prog 90 := ⟨Try.f90, Try.func90, by kernel_rfl, by kernel_rfl⟩
@[simp] theorem hb91 : HasBody Try.prog 91 := ⟨Try.f91, Try.func91, by kernel_rfl, by kernel_rfl⟩
@[simp] theorem hb92 : HasBody Try.prog 92 := ⟨Try.f92, Try.func92, by kernel_rfl, by kernel_rfl⟩
@[simp] theorem hb93 : HasBody Try.prog 93 := ⟨Try.f93, Try.func93, by kernel_rfl, by kernel_rfl⟩
end Go.Proofs.Ytgojidjfidldbaa.EngS

set_option linter.unusedSimpArgs false
set_option linter.unusedVariables false
namespace Go.Proofs.Ytgojidjfidldbaa.EngS
open Go Go.Proofs Go.Eng
abbrev int (n : Int) : D := .v (.sc (.int .i64 n))
abbrev boo (b : Bool) : D := .v (.sc (.bool b))
def ints (xs : List Int) : List PV := xs.map fun x => .sc (.int .i64 x)
@[simp] theorem ints_len (xs) : (ints xs).length = xs.length := by simp [ints]
@[simp] theorem ints_get (xs : List Int) (i : Nat) : (ints xs)[i]? = (xs[i]?).map fun x => .sc (.int .i64 x) := by simp [ints]
@[simp] theorem ints_at (xs : List Int) (i : Nat) (h : i < (ints xs).length) : (ints xs)[i] = .sc (.int .i64 (xs[i]'(by simpa using h))) := by simp [ints]
@[simp] theorem ints_frz (xs) : PV.frzs (ints xs) = ints xs := by simp [ints]
def inR (lo hi n : Int) : Bool := decide (lo ≤ n) && decide (n ≤ hi)
theorem inR_iff {lo hi n : Int} : inR lo hi n = true ↔ lo ≤ n ∧ n ≤ hi := by simp [inR]
theorem c_impl_within (n lo hi : Int) : ACall Try.prog 56 [int n, int lo, int hi] [.x, .x, .x] [boo (inR lo hi n)] := by
  refine ACall.of (N := 15) tok Try.func56 rfl rfl rfl (by simp) ?_
  repeat' (first | with_reducible refine OutOK.done ?_ | refine thenQ_n ?_ | refine thenQ_r ?_ | refine thenQ_e ?_ | refine AW.seq ?_ | refine AW.reg tok (by simp [*]; rfl) ?_ | refine AW.ifB (by simp [*]; rfl) ?_ | refine IfG.t ?_ | refine IfG.f ?_ | (refine IfG.p (fun hg => ?_) (fun hg => ?_) <;> (try (have hg' := hg; simp at hg'))) | (refine IfG.n (fun hg => ?_) (fun hg => ?_) <;> (try (have hg' := hg; simp at hg'))) | (refine OutOK.gateP (fun hg => ?_) (fun hg => ?_) <;> (try (have hg' := hg; simp at hg'))) | (refine OutOK.gateN (fun hg => ?_) (fun hg => ?_) <;> (try (have hg' := hg; simp at hg'))) | (refine IfG.g (fun hg => ?_) (fun hg => ?_) <;> (try (have hg' := hg; simp at hg'))) | (refine OutOK.gate (fun hg => ?_) (fun hg => ?_) <;> (try (have hg' := hg; simp at hg'))) | refine OutOK.run (by simp [*]; rfl) ?_ | refine AW.ret ?_ | refine AW.skip ?_ | refine AW.exit ?_ | refine fin_r ?_ | refine fin_n ?_ | refine AW.block ?_ | refine blockQ_n ?_ | refine blockQ_r ?_ | refine blockQ_e ?_ | refine blockQ_o rfl ?_)
  all_goals simp [*, Try.f56, inR]
theorem c_spec_l1In (n lo hi : Int) : ACall Try.prog 61 [int n, int lo, int hi] [.x, .x, .x] [boo (inR lo hi n)] := by
  refine ACall.of (N := 15) tok Try.func61 rfl rfl rfl (by simp) ?_
  repeat' (first | with_reducible refine OutOK.done ?_ | refine thenQ_n ?_ | refine thenQ_r ?_ | refine thenQ_e ?_ | refine AW.seq ?_ | refine AW.reg tok (by simp [*]; rfl) ?_ | refine AW.ifB (by simp [*]; rfl) ?_ | refine IfG.t ?_ | refine IfG.f ?_ | (refine IfG.p (fun hg => ?_) (fun hg => ?_) <;> (try (have hg' := hg; simp at hg'))) | (refine IfG.n (fun hg => ?_) (fun hg => ?_) <;> (try (have hg' := hg; simp at hg'))) | (refine OutOK.gateP (fun hg => ?_) (fun hg => ?_) <;> (try (have hg' := hg; simp at hg'))) | (refine OutOK.gateN (fun hg => ?_) (fun hg => ?_) <;> (try (have hg' := hg; simp at hg'))) | (refine IfG.g (fun hg => ?_) (fun hg => ?_) <;> (try (have hg' := hg; simp at hg'))) | (refine OutOK.gate (fun hg => ?_) (fun hg => ?_) <;> (try (have hg' := hg; simp at hg'))) | refine OutOK.run (by simp [*]; rfl) ?_ | refine AW.ret ?_ | refine AW.skip ?_ | refine AW.exit ?_ | refine fin_r ?_ | refine fin_n ?_ | refine AW.block ?_ | refine blockQ_n ?_ | refine blockQ_r ?_ | refine blockQ_e ?_ | refine blockQ_o rfl ?_)
  all_goals simp [*, Try.f61, inR]
theorem c_impl_IsValidSurface_1 (n : Int) : ACall Try.prog 58 [int n] [.x] [boo (!inR 0 10000 n)] := by
  refine ACall.of (N := 6) tok Try.func58 rfl rfl rfl (by simp) ?_
  repeat' (first | with_reducible refine OutOK.done ?_ | refine thenQ_n ?_ | refine thenQ_r ?_ | refine thenQ_e ?_ | refine AW.seq ?_ | refine AW.reg tok (by simp [*]; rfl) ?_ | refine AW.ifB (by simp [*]; rfl) ?_ | refine IfG.t ?_ | refine IfG.f ?_ | (refine IfG.p (fun hg => ?_) (fun hg => ?_) <;> (try (have hg' := hg; simp at hg'))) | (refine IfG.n (fun hg => ?_) (fun hg => ?_) <;> (try (have hg' := hg; simp at hg'))) | (refine OutOK.gateP (fun hg => ?_) (fun hg => ?_) <;> (try (have hg' := hg; simp at hg'))) | (refine OutOK.gateN (fun hg => ?_) (fun hg => ?_) <;> (try (have hg' := hg; simp at hg'))) | (refine IfG.g (fun hg => ?_) (fun hg => ?_) <;> (try (have hg' := hg; simp at hg'))) | (refine OutOK.gate (fun hg => ?_) (fun hg => ?_) <;> (try (have hg' := hg; simp at hg'))) | refine OutOK.callF [] (by simp [*]; rfl) (by simp [*]; rfl) (by simp [*]; rfl) hb56 (by apply c_impl_within <;> first | assumption | exact Hd.out (by assumption) | omega) ⟨by simp [*], by simp [*], by simp [*], by simp [*], by simp [*]⟩ (by simp [*]) (by simp [*]; rfl) ?_ | refine OutOK.run (by simp [*]; rfl) ?_ | refine AW.ret ?_ | refine AW.skip ?_ | refine AW.exit ?_ | refine fin_r ?_ | refine fin_n ?_ | refine AW.block ?_ | refine blockQ_n ?_ | refine blockQ_r ?_ | refine blockQ_e ?_ | refine blockQ_o rfl ?_)
  all_goals (try simp [*, Try.f58])
theorem c_laws_eqIntS (xs ys : List Int) (h : xs.length < 9223372036854775807) : ACall Try.prog 40 [.v (.sl true 1 (ints xs)), .v (.sl true 1 (ints ys))] [.x, .x] [boo (decide (xs = ys))] := by
  refine ACall.of (N := 26) tok Try.func40 rfl rfl rfl (by simp) ?_
  repeat' (first | with_reducible refine OutOK.done ?_ | refine thenQ_n ?_ | refine thenQ_r ?_ | refine thenQ_e ?_ | refine AW.seq ?_ | refine AW.dreg tok mixed [(0, true), (1, true), (2, true), (3, true), (4, true), (5, true), (6, true), (7, true), (8, true)] (by decide +kernel) rfl (by simp [*]; rfl) ?_ | refine AW.reg tok (by simp [*]; rfl) ?_ | refine AW.ifB (by simp [*]; rfl) ?_ | refine IfG.t ?_ | refine IfG.f ?_ | (refine IfG.p (fun hg => ?_) (fun hg => ?_) <;> (try (have hg' := hg; simp at hg'))) | (refine IfG.n (fun hg => ?_) (fun hg => ?_) <;> (try (have hg' := hg; simp at hg'))) | (refine OutOK.gateP (fun hg => ?_) (fun hg => ?_) <;> (try (have hg' := hg; simp at hg'))) | (refine OutOK.gateN (fun hg => ?_) (fun hg => ?_) <;> (try (have hg' := hg; simp at hg'))) | (refine IfG.g (fun hg => ?_) (fun hg => ?_) <;> (try (have hg' := hg; simp at hg'))) | (refine OutOK.gate (fun hg => ?_) (fun hg => ?_) <;> (try (have hg' := hg; simp at hg'))) | refine OutOK.run (by simp [*]; rfl) ?_ | refine AW.ret ?_ | refine AW.skip ?_ | refine AW.exit ?_ | refine fin_r ?_ | refine fin_n ?_ | refine AW.block ?_ | refine blockQ_n ?_ | refine blockQ_r ?_ | refine blockQ_e ?_ | refine blockQ_o rfl ?_)
  · have : ¬ xs = ys := fun e => by subst e; simp at *
    simp [Try.f40, this]
  refine AW.loopL (α := Nat) (fun i => i ≤ xs.length ∧ ∀ j < i, xs[j]? = ys[j]?) (fun i => [(0, .c (.sl true 1 (ints xs))), (1, .c (.sl true 1 (ints ys))), (4, .c (.sc (.bool false))), (5, .c (.sc (.int .i64 (i : Int))))]) (fun _ => []) (fun i => xs.length - i) 0 ⟨Nat.zero_le _, by simp⟩ ⟨by simp, by simp, by simp⟩ ?_
  rintro i ⟨hi, hs⟩
  have hl : xs.length = ys.length := by omega
  repeat' (first | with_reducible refine OutOK.done ?_ | refine thenQ_n ?_ | refine thenQ_r ?_ | refine thenQ_e ?_ | refine AW.seq ?_ | refine AW.dreg tok mixed [(0, true), (1, true), (2, true), (3, true), (4, true), (5, true), (6, true), (7, true), (8, true)] (by decide +kernel) rfl (by simp [*]; rfl) ?_ | refine AW.reg tok (by simp [*]; rfl) ?_ | refine AW.ifB (by simp [*]; rfl) ?_ | refine IfG.t ?_ | refine IfG.f ?_ | (refine IfG.p (fun hg => ?_) (fun hg => ?_) <;> (try (have hg' := hg; simp at hg'))) | (refine IfG.n (fun hg => ?_) (fun hg => ?_) <;> (try (have hg' := hg; simp at hg'))) | (refine OutOK.gateP (fun hg => ?_) (fun hg => ?_) <;> (try (have hg' := hg; simp at hg'))) | (refine OutOK.gateN (fun hg => ?_) (fun hg => ?_) <;> (try (have hg' := hg; simp at hg'))) | (refine IfG.g (fun hg => ?_) (fun hg => ?_) <;> (try (have hg' := hg; simp at hg'))) | (refine OutOK.gate (fun hg => ?_) (fun hg => ?_) <;> (try (have hg' := hg; simp at hg'))) | refine OutOK.run (by simp [*]; rfl) ?_ | refine AW.ret ?_ | refine AW.skip ?_ | refine AW.exit ?_ | refine fin_r ?_ | refine fin_n ?_ | refine AW.block ?_ | refine blockQ_n ?_ | refine blockQ_r ?_ | refine blockQ_e ?_ | refine blockQ_o rfl ?_)
  · have : ¬ xs = ys := fun e => by subst e; simp at *
    simp [Try.f40, this]
  · have hi' : i < xs.length := by omega
    refine ⟨i + 1, ⟨hi', fun j hj => ?_⟩, ⟨?_, by simp, by simp⟩, by omega⟩
    · rcases Nat.lt_succ_iff_lt_or_eq.1 hj with h1 | h1
      · exact hs j h1
      · subst h1; simp [*]
    · simp
      rw [w64 (by omega) (by omega)]
  · have : xs = ys := List.ext_getElem? fun j => by
      rcases Nat.lt_or_ge j i with h1 | h1
      · exact hs j h1
      · rw [List.getElem?_eq_none (by omega), List.getElem?_eq_none (by omega)]
    simp [Try.f40, this]
def lef (l : Int) (n : Nat) : Int := if l - n < 0 then -1 else l - n
theorem lef_neg {l : Int} {n : Nat} (h : lef l n < 0) : lef l n = -1 := by unfold lef at *; split at h <;> first | (split <;> omega) | omega
theorem c_laws_szIntS (xs : List Int) (l : Int) (h : -9223372036854775808 ≤ l - xs.length) (h' : l < 9223372036854775807) : ACall Try.prog 53 [.v (.sl true 1 (ints xs)), int l] [.x, .x] [int (lef l xs.length)] := by
  have hw : RowKit.wrap64 (l - xs.length) = l - xs.length := w64 h (by omega)
  refine ACall.of (N := 12) tok Try.func53 rfl rfl rfl (by simp) ?_
  repeat' (first | with_reducible refine OutOK.done ?_ | refine thenQ_n ?_ | refine thenQ_r ?_ | refine thenQ_e ?_ | refine AW.seq ?_ | refine AW.reg tok (by simp [*]; rfl) ?_ | refine AW.ifB (by simp [*]; rfl) ?_ | refine IfG.t ?_ | refine IfG.f ?_ | (refine IfG.p (fun hg => ?_) (fun hg => ?_) <;> (try (have hg' := hg; simp at hg'))) | (refine IfG.n (fun hg => ?_) (fun hg => ?_) <;> (try (have hg' := hg; simp at hg'))) | (refine OutOK.gateP (fun hg => ?_) (fun hg => ?_) <;> (try (have hg' := hg; simp at hg'))) | (refine OutOK.gateN (fun hg => ?_) (fun hg => ?_) <;> (try (have hg' := hg; simp at hg'))) | (refine IfG.g (fun hg => ?_) (fun hg => ?_) <;> (try (have hg' := hg; simp at hg'))) | (refine OutOK.gate (fun hg => ?_) (fun hg => ?_) <;> (try (have hg' := hg; simp at hg'))) | refine OutOK.run (by simp [*]; rfl) ?_ | refine AW.ret ?_ | refine AW.skip ?_ | refine AW.exit ?_ | refine fin_r ?_ | refine fin_n ?_ | refine AW.block ?_ | refine blockQ_n ?_ | refine blockQ_r ?_ | refine blockQ_e ?_ | refine blockQ_o rfl ?_)
  all_goals simp [*, Try.f53, lef]
end Go.Proofs.Ytgojidjfidldbaa.EngS


set_option linter.unusedSimpArgs false
set_option linter.unusedVariables false
namespace Go.Proofs.Ytgojidjfidldbaa.EngS
open Go Go.Proofs Go.Eng
@[simp] theorem rep_ints (n : Nat) (x : Int) : List.replicate n (PV.sc (.int .i64 x)) = ints (List.replicate n x) := by simp [ints]
@[simp] theorem ints_set (xs : List Int) (i : Nat) (x : Int) : (ints xs).set i (.sc (.int .i64 x)) = ints (xs.set i x) := by simp [ints, List.map_set]
@[simp] theorem ints_inj (xs ys : List Int) : ints xs = ints ys ↔ xs = ys := by
  constructor
  · intro h
    have := congrArg (List.map fun p => match p with | PV.sc (.int _ x) => x | _ => 0) h
    simpa [ints, Function.comp_def] using this
  · rintro rfl; rfl
@[simp] theorem ints_nofz (xs : List Int) : PV.nofzs (ints xs) = true := by
  induction xs with
  | nil => rfl
  | cons x xs ih => simpa [ints] using ih
def copied {α : Type} (z : α) (xs : List α) (i : Nat) : List α := xs.take i ++ List.replicate (xs.length - i) z
@[simp] theorem copied_len {α : Type} (z : α) (xs : List α) (i : Nat) (h : i ≤ xs.length) : (copied z xs i).length = xs.length := by simp [copied]; omega
theorem copied_zero {α : Type} (z : α) (xs : List α) : copied z xs 0 = List.replicate xs.length z := by simp [copied]
theorem copied_all {α : Type} (z : α) (xs : List α) (i : Nat) (h : xs.length ≤ i) : copied z xs i = xs := by simp [copied, List.take_of_length_le h, show xs.length - i = 0 by omega]
theorem copied_step {α : Type} (z : α) (xs : List α) (i : Nat) (h : i < xs.length) : (copied z xs i).set i xs[i] = copied z xs (i + 1) := by
  unfold copied
  apply List.ext_getElem?
  intro j
  have e1 : min i xs.length = i := Nat.min_eq_left (by omega)
  have e2 : min (i + 1) xs.length = i + 1 := Nat.min_eq_left (by omega)
  simp only [List.getElem?_set, List.getElem?_append, List.length_take, List.length_append, List.length_replicate, List.getElem?_take, List.getElem?_replicate, e1, e2]
  rcases Nat.lt_trichotomy j i with h1 | h1 | h1
  · rw [if_neg (by omega), if_pos h1, if_pos h1, if_pos (by omega), if_pos (by omega)]
  · subst h1
    rw [if_pos rfl, if_pos (by omega), if_pos (by omega), if_pos (by omega), List.getElem?_eq_getElem h]
  · have a1 : ¬ i = j := by omega
    have a2 : ¬ j < i := by omega
    have a3 : ¬ j < i + 1 := by omega
    simp only [a1, a2, a3, if_false]
    by_cases h2 : j < xs.length
    · rw [if_pos (by omega), if_pos (by omega)]
    · rw [if_neg (by omega), if_neg (by omega)]
theorem c_laws_toIntS (xs : List Int) (h : xs.length ≤ 1048576) : ACall Try.prog 55 [.v (.sl true 1 (ints xs))] [.x] [.v (.sl false 1 (ints xs))] := by
  have h1 : (xs.length : Int) * 8 ≤ 140737488355328 := by omega
  have h2 : (xs.length : Int) ≤ 4611686018427387904 := by omega
  refine ACall.of (N := 22) tok Try.func55 rfl rfl rfl (by simp) ?_
  repeat' (first | with_reducible refine OutOK.done ?_ | refine thenQ_n ?_ | refine thenQ_r ?_ | refine thenQ_e ?_ | refine AW.seq ?_ | refine AW.reg tok (by simp [*]; rfl) ?_ | refine AW.ifB (by simp [*]; rfl) ?_ | refine IfG.t ?_ | refine IfG.f ?_ | (refine IfG.p (fun hg => ?_) (fun hg => ?_) <;> (try (have hg' := hg; simp at hg'))) | (refine IfG.n (fun hg => ?_) (fun hg => ?_) <;> (try (have hg' := hg; simp at hg'))) | (refine OutOK.gateP (fun hg => ?_) (fun hg => ?_) <;> (try (have hg' := hg; simp at hg'))) | (refine OutOK.gateN (fun hg => ?_) (fun hg => ?_) <;> (try (have hg' := hg; simp at hg'))) | (refine IfG.g (fun hg => ?_) (fun hg => ?_) <;> (try (have hg' := hg; simp at hg'))) | (refine OutOK.gate (fun hg => ?_) (fun hg => ?_) <;> (try (have hg' := hg; simp at hg'))) | refine OutOK.run (by simp [*]; rfl) ?_ | refine AW.ret ?_ | refine AW.skip ?_ | refine AW.exit ?_ | refine fin_r ?_ | refine fin_n ?_ | refine AW.block ?_ | refine blockQ_n ?_ | refine blockQ_r ?_ | refine blockQ_e ?_ | refine blockQ_o rfl ?_)
  refine AW.loopL (fun i => i ≤ xs.length) (fun i => [(0, .c (.sl true 1 (ints xs))), (3, .rf 7000 []), (4, .c (.sc (.int .i64 (i : Int))))]) (fun i => [(7000, .sv (.sl false 1 (ints (copied 0 xs i))))]) (fun i => xs.length - i) 0 (Nat.zero_le _) ⟨by simp, by simp [copied_zero], by simp⟩ ?_
  intro i hi
  repeat' (first | with_reducible refine OutOK.done ?_ | refine thenQ_n ?_ | refine thenQ_r ?_ | refine thenQ_e ?_ | refine AW.seq ?_ | refine AW.reg tok (by simp [*]; rfl) ?_ | refine AW.ifB (by simp [*]; rfl) ?_ | refine IfG.t ?_ | refine IfG.f ?_ | (refine IfG.p (fun hg => ?_) (fun hg => ?_) <;> (try (have hg' := hg; simp at hg'))) | (refine IfG.n (fun hg => ?_) (fun hg => ?_) <;> (try (have hg' := hg; simp at hg'))) | (refine OutOK.gateP (fun hg => ?_) (fun hg => ?_) <;> (try (have hg' := hg; simp at hg'))) | (refine OutOK.gateN (fun hg => ?_) (fun hg => ?_) <;> (try (have hg' := hg; simp at hg'))) | (refine IfG.g (fun hg => ?_) (fun hg => ?_) <;> (try (have hg' := hg; simp at hg'))) | (refine OutOK.gate (fun hg => ?_) (fun hg => ?_) <;> (try (have hg' := hg; simp at hg'))) | refine OutOK.run (by simp [*]; rfl) ?_ | refine AW.ret ?_ | refine AW.skip ?_ | refine AW.exit ?_ | refine fin_r ?_ | refine fin_n ?_ | refine AW.block ?_ | refine blockQ_n ?_ | refine blockQ_r ?_ | refine blockQ_e ?_ | refine blockQ_o rfl ?_)
  · refine ⟨i + 1, by omega, ⟨?_, by simp [*, copied_step], by simp⟩, by omega⟩
    simp
    rw [w64 (by omega) (by omega)]
  · simp [Try.f55, copied_all _ _ _ hg']
end Go.Proofs.Ytgojidjfidldbaa.EngS


set_option linter.unusedSimpArgs false
set_option linter.unusedVariables false
namespace Go.Proofs.Ytgojidjfidldbaa.EngS
open Go Go.Proofs Go.Eng
abbrev surf (w d : Int) (cs : List Int) : D := .g [.sc (.int .i64 w), .sc (.int .i64 d), .sl true 1 (ints cs)]
abbrev surfO (w d : Int) (cs : List Int) : D := .g [.sc (.int .i64 w), .sc (.int .i64 d), .sl false 1 (ints cs)]
theorem c_laws_toSurface (w d : Int) (cs : List Int) (h : cs.length ≤ 1048576) : ACall Try.prog 17 [surf w d cs] [.x] [surfO w d cs] := by
  refine ACall.of (N := 15) tok Try.func17 rfl rfl rfl (by simp) ?_
  repeat' (first | with_reducible refine OutOK.done ?_ | refine thenQ_n ?_ | refine thenQ_r ?_ | refine thenQ_e ?_ | refine AW.seq ?_ | refine AW.reg tok (by simp [*]; rfl) ?_ | refine AW.ifB (by simp [*]; rfl) ?_ | refine IfG.t ?_ | refine IfG.f ?_ | (refine IfG.p (fun hg => ?_) (fun hg => ?_) <;> (try (have hg' := hg; simp at hg'))) | (refine IfG.n (fun hg => ?_) (fun hg => ?_) <;> (try (have hg' := hg; simp at hg'))) | (refine OutOK.gateP (fun hg => ?_) (fun hg => ?_) <;> (try (have hg' := hg; simp at hg'))) | (refine OutOK.gateN (fun hg => ?_) (fun hg => ?_) <;> (try (have hg' := hg; simp at hg'))) | (refine IfG.g (fun hg => ?_) (fun hg => ?_) <;> (try (have hg' := hg; simp at hg'))) | (refine OutOK.gate (fun hg => ?_) (fun hg => ?_) <;> (try (have hg' := hg; simp at hg'))) | refine OutOK.callF [] (by simp [*]; rfl) (by simp [*]; rfl) (by simp [*]; rfl) hb55 (by apply c_laws_toIntS <;> first | assumption | exact Hd.out (by assumption) | omega) ⟨by simp [*], by simp [*], by simp [*], by simp [*], by simp [*]⟩ (by simp [*]) (by simp [*]; rfl) ?_ | refine OutOK.run (by simp [*]; rfl) ?_ | refine AW.ret ?_ | refine AW.skip ?_ | refine AW.exit ?_ | refine fin_r ?_ | refine fin_n ?_ | refine AW.block ?_ | refine blockQ_n ?_ | refine blockQ_r ?_ | refine blockQ_e ?_ | refine blockQ_o rfl ?_)
  all_goals (try simp [*, Try.f17])
theorem c_laws_szSurface (w d : Int) (cs : List Int) (l : Int) (h : -9223372036854775808 ≤ l - cs.length) (h' : l < 9223372036854775807) : ACall Try.prog 15 [surf w d cs, int l] [.x, .x] [int (lef l cs.length)] := by
  refine ACall.of (N := 12) tok Try.func15 rfl rfl rfl (by simp) ?_
  repeat' (first | with_reducible refine OutOK.done ?_ | refine thenQ_n ?_ | refine thenQ_r ?_ | refine thenQ_e ?_ | refine AW.seq ?_ | refine AW.reg tok (by simp [*]; rfl) ?_ | refine AW.ifB (by simp [*]; rfl) ?_ | refine IfG.t ?_ | refine IfG.f ?_ | (refine IfG.p (fun hg => ?_) (fun hg => ?_) <;> (try (have hg' := hg; simp at hg'))) | (refine IfG.n (fun hg => ?_) (fun hg => ?_) <;> (try (have hg' := hg; simp at hg'))) | (refine OutOK.gateP (fun hg => ?_) (fun hg => ?_) <;> (try (have hg' := hg; simp at hg'))) | (refine OutOK.gateN (fun hg => ?_) (fun hg => ?_) <;> (try (have hg' := hg; simp at hg'))) | (refine IfG.g (fun hg => ?_) (fun hg => ?_) <;> (try (have hg' := hg; simp at hg'))) | (refine OutOK.gate (fun hg => ?_) (fun hg => ?_) <;> (try (have hg' := hg; simp at hg'))) | refine OutOK.callF [] (by simp [*]; rfl) (by simp [*]; rfl) (by simp [*]; rfl) hb53 (by apply c_laws_szIntS <;> first | assumption | exact Hd.out (by assumption) | omega) ⟨by simp [*], by simp [*], by simp [*], by simp [*], by simp [*]⟩ (by simp [*]) (by simp [*]; rfl) ?_ | refine OutOK.run (by simp [*]; rfl) ?_ | refine AW.ret ?_ | refine AW.skip ?_ | refine AW.exit ?_ | refine fin_r ?_ | refine fin_n ?_ | refine AW.block ?_ | refine blockQ_n ?_ | refine blockQ_r ?_ | refine blockQ_e ?_ | refine blockQ_o rfl ?_)
  · simp [Try.f15, lef_neg hg]
  · simp [Try.f15]
theorem c_laws_eqSurface (w d : Int) (cs : List Int) (w' d' : Int) (cs' : List Int) (h : cs.length < 9223372036854775807) : ACall Try.prog 19 [surf w d cs, surf w' d' cs'] [.x, .x] [boo (decide (w = w') && decide (d = d') && decide (cs = cs'))] := by
  refine ACall.of (N := 21) tok Try.func19 rfl rfl rfl (by simp) ?_
  repeat' (first | with_reducible refine OutOK.done ?_ | refine thenQ_n ?_ | refine thenQ_r ?_ | refine thenQ_e ?_ | refine AW.seq ?_ | refine AW.reg tok (by simp [*]; rfl) ?_ | refine AW.ifB (by simp [*]; rfl) ?_ | refine IfG.t ?_ | refine IfG.f ?_ | (refine IfG.p (fun hg => ?_) (fun hg => ?_) <;> (try (have hg' := hg; simp at hg'))) | (refine IfG.n (fun hg => ?_) (fun hg => ?_) <;> (try (have hg' := hg; simp at hg'))) | (refine OutOK.gateP (fun hg => ?_) (fun hg => ?_) <;> (try (have hg' := hg; simp at hg'))) | (refine OutOK.gateN (fun hg => ?_) (fun hg => ?_) <;> (try (have hg' := hg; simp at hg'))) | (refine IfG.g (fun hg => ?_) (fun hg => ?_) <;> (try (have hg' := hg; simp at hg'))) | (refine OutOK.gate (fun hg => ?_) (fun hg => ?_) <;> (try (have hg' := hg; simp at hg'))) | refine OutOK.callF [] (by simp [*]; rfl) (by simp [*]; rfl) (by simp [*]; rfl) hb40 (by apply c_laws_eqIntS <;> first | assumption | exact Hd.out (by assumption) | omega) ⟨by simp [*], by simp [*], by simp [*], by simp [*], by simp [*]⟩ (by simp [*]) (by simp [*]; rfl) ?_ | refine OutOK.run (by simp [*]; rfl) ?_ | refine AW.ret ?_ | refine AW.skip ?_ | refine AW.exit ?_ | refine fin_r ?_ | refine fin_n ?_ | refine AW.block ?_ | refine blockQ_n ?_ | refine blockQ_r ?_ | refine blockQ_e ?_ | refine blockQ_o rfl ?_)
  all_goals (try simp [*, Try.f19])
theorem all_no {α : Type} {p : α → Bool} {xs : List α} {i : Nat} (h : i < xs.length) (hp : p xs[i] = false) : xs.all p = false := by
  rw [Bool.eq_false_iff]
  intro ha
  have := List.all_eq_true.1 ha xs[i] (List.getElem_mem h)
  rw [hp] at this; cases this
theorem all_more {α : Type} {p : α → Bool} {xs : List α} {i : Nat} (h : i < xs.length) (hs : (xs.take i).all p = true) (hp : p xs[i] = true) : (xs.take (i + 1)).all p = true := by
  rw [List.take_succ_eq_append_getElem h, List.all_append, hs]
  simp [hp]
theorem all_end {α : Type} {p : α → Bool} {xs : List α} {i : Nat} (h : xs.length ≤ i) (hs : (xs.take i).all p = true) : xs.all p = true := by
  rwa [List.take_of_length_le h] at hs
def good (w d : Int) (cs : List Int) : Bool := inR 2 8 w && inR 2 8 d && decide ((cs.length : Int) = w * d) && cs.all (inR 0 10000)
theorem area {w d : Int} (hw : inR 2 8 w = true) (hd : inR 2 8 d = true) : RowKit.wrap64 (w * d) = w * d ∧ 0 ≤ w * d ∧ w * d ≤ 64 := by
  have h1 := inR_iff.1 hw
  have h2 := inR_iff.1 hd
  have a : 0 ≤ w * d := Int.mul_nonneg (by omega) (by omega)
  have b : w * d ≤ 8 * 8 := Int.mul_le_mul (by omega) (by omega) (by omega) (by omega)
  exact ⟨w64 (by omega) (by omega), a, by omega⟩
theorem c_spec_l19Good (w d : Int) (cs : List Int) (h : cs.length < 9223372036854775807) : ACall Try.prog 54 [surf w d cs] [.x] [boo (good w d cs)] := by
  refine ACall.of (N := 39) tok Try.func54 rfl rfl rfl (by simp) ?_
  repeat' (first | with_reducible refine OutOK.done ?_ | refine thenQ_n ?_ | refine thenQ_r ?_ | refine thenQ_e ?_ | refine AW.seq ?_ | refine AW.reg tok (by simp [*]; rfl) ?_ | refine AW.ifB (by simp [*]; rfl) ?_ | refine IfG.t ?_ | refine IfG.f ?_ | (refine IfG.p (fun hg => ?_) (fun hg => ?_) <;> (try (have hg' := hg; simp at hg'))) | (refine IfG.n (fun hg => ?_) (fun hg => ?_) <;> (try (have hg' := hg; simp at hg'))) | (refine OutOK.gateP (fun hg => ?_) (fun hg => ?_) <;> (try (have hg' := hg; simp at hg'))) | (refine OutOK.gateN (fun hg => ?_) (fun hg => ?_) <;> (try (have hg' := hg; simp at hg'))) | (refine IfG.g (fun hg => ?_) (fun hg => ?_) <;> (try (have hg' := hg; simp at hg'))) | (refine OutOK.gate (fun hg => ?_) (fun hg => ?_) <;> (try (have hg' := hg; simp at hg'))) | refine OutOK.callF [] (by simp [*]; rfl) (by simp [*]; rfl) (by simp [*]; rfl) hb61 (by apply c_spec_l1In <;> first | assumption | exact Hd.out (by assumption) | omega) ⟨by simp [*], by simp [*], by simp [*], by simp [*], by simp [*]⟩ (by simp [*]) (by simp [*]; rfl) ?_ | refine OutOK.run (by simp [*]; rfl) ?_ | refine AW.ret ?_ | refine AW.skip ?_ | refine AW.exit ?_ | refine fin_r ?_ | refine fin_n ?_ | refine AW.block ?_ | refine blockQ_n ?_ | refine blockQ_r ?_ | refine blockQ_e ?_ | refine blockQ_o rfl ?_)
  · rename_i h1 h2
    have h3' : ¬ (cs.length : Int) = w * d := by rw [← (area h1 h2).1]; exact hg
    simp [Try.f54, good, h1, h2, h3']
  · rename_i h1 h2
    have h3' : (cs.length : Int) = w * d := by rw [← (area h1 h2).1]; exact hg
    refine AW.loopL (fun i => i ≤ cs.length ∧ (cs.take i).all (inR 0 10000) = true) (fun i => [(1, .pt 1000 [] 0), (2, .c (.sc (.bool false))), (3, .c (.sc (.int .i64 (i : Int))))]) (fun i => [(1000, .bx [.sc (.int .i64 w), .sc (.int .i64 d), .sl true 1 (ints cs)])]) (fun i => cs.length - i) 0 ⟨Nat.zero_le _, by simp⟩ ⟨by simp, by simp, by simp⟩ ?_
    rintro i ⟨hi, hs⟩
    have hgd : good w d cs = cs.all (inR 0 10000) := by simp [good, h1, h2, h3']
    clear hg h1 h2 h3'
    repeat' (first | with_reducible refine OutOK.done ?_ | refine thenQ_n ?_ | refine thenQ_r ?_ | refine thenQ_e ?_ | refine AW.seq ?_ | refine AW.reg tok (by simp [*]; rfl) ?_ | refine AW.ifB (by simp [*]; rfl) ?_ | refine IfG.t ?_ | refine IfG.f ?_ | (refine IfG.p (fun hg => ?_) (fun hg => ?_) <;> (try (have hg' := hg; simp at hg'))) | (refine IfG.n (fun hg => ?_) (fun hg => ?_) <;> (try (have hg' := hg; simp at hg'))) | (refine OutOK.gateP (fun hg => ?_) (fun hg => ?_) <;> (try (have hg' := hg; simp at hg'))) | (refine OutOK.gateN (fun hg => ?_) (fun hg => ?_) <;> (try (have hg' := hg; simp at hg'))) | (refine IfG.g (fun hg => ?_) (fun hg => ?_) <;> (try (have hg' := hg; simp at hg'))) | (refine OutOK.gate (fun hg => ?_) (fun hg => ?_) <;> (try (have hg' := hg; simp at hg'))) | refine OutOK.callF [] (by simp [*]; rfl) (by simp [*]; rfl) (by simp [*]; rfl) hb61 (by apply c_spec_l1In <;> first | assumption | exact Hd.out (by assumption) | omega) ⟨by simp [*], by simp [*], by simp [*], by simp [*], by simp [*]⟩ (by simp [*]) (by simp [*]; rfl) ?_ | refine OutOK.run (by simp [*]; rfl) ?_ | refine AW.ret ?_ | refine AW.skip ?_ | refine AW.exit ?_ | refine fin_r ?_ | refine fin_n ?_ | refine AW.block ?_ | refine blockQ_n ?_ | refine blockQ_r ?_ | refine blockQ_e ?_ | refine blockQ_o rfl ?_)
    · rename_i h1
      simp [Try.f54, hgd, all_no h1 hg']
    · rename_i h1
      refine ⟨i + 1, ⟨h1, all_more h1 hs hg'⟩, ⟨?_, by simp, by simp⟩, by omega⟩
      simp
      rw [w64 (by omega) (by omega)]
    · simp [Try.f54, hgd, all_end hg' hs]
  · rename_i h1
    simp [Try.f54, good, h1, hg]
  · simp [Try.f54, good, hg]
def idx {α : Type} (p : α → Bool) (xs : List α) : Int := ((xs.findIdx? p).map Int.ofNat).getD (-1)
theorem idx_at {α : Type} {p : α → Bool} {xs : List α} {i : Nat} (h : i < xs.length) (hs : (xs.take i).any p = false) (hp : p xs[i] = true) : idx p xs = i := by
  have : xs.findIdx? p = some i := by
    rw [List.findIdx?_eq_some_iff_getElem]
    refine ⟨h, hp, fun j hj => ?_⟩
    rw [Bool.eq_false_iff] at hs
    intro hc
    exact hs (List.any_eq_true.2 ⟨xs[j], List.mem_take_iff_getElem.2 ⟨j, by omega, rfl⟩, hc⟩)
  simp [idx, this]
theorem idx_none {α : Type} {p : α → Bool} {xs : List α} (hs : xs.any p = false) : idx p xs = -1 := by
  have : xs.findIdx? p = none := by
    rw [List.findIdx?_eq_none_iff]
    intro x hx
    rw [Bool.eq_false_iff] at hs ⊢
    exact fun hc => hs (List.any_eq_true.2 ⟨x, hx, hc⟩)
  simp [idx, this]
theorem idx_any {α : Type} {p : α → Bool} {xs : List α} : decide (0 ≤ idx p xs) = xs.any p := by
  cases h : xs.any p with
  | false => rw [idx_none h]; rfl
  | true =>
    obtain ⟨x, hx, hp⟩ := List.any_eq_true.1 h
    obtain ⟨i, hi⟩ := Option.isSome_iff_exists.1 (List.findIdx?_isSome ▸ h : (xs.findIdx? p).isSome = true)
    simp [idx, hi]
theorem any_more {α : Type} {p : α → Bool} {xs : List α} {i : Nat} (h : i < xs.length) (hs : (xs.take i).any p = false) (hp : p xs[i] = false) : (xs.take (i + 1)).any p = false := by
  rw [List.take_succ_eq_append_getElem h, List.any_append, hs]
  simp [hp]
theorem any_end {α : Type} {p : α → Bool} {xs : List α} {i : Nat} (h : xs.length ≤ i) (hs : (xs.take i).any p = false) : xs.any p = false := by
  rwa [List.take_of_length_le h] at hs
theorem c_slices_IndexFunc_int_int (xs : List Int) (f : Nat) (p : Int → Bool) (h : xs.length < 9223372036854775807) (hbf : HasBody Try.prog f) (cf : ∀ n : Int, ACall Try.prog f [int n] [.x] [boo (p n)]) : ACall Try.prog 85 [.v (.sl true 1 (ints xs)), .f f []] [.x, .x] [int (idx p xs)] := by
  refine ACall.of (N := 19) tok Try.func85 rfl rfl rfl (by simp) ?_
  repeat' (first | with_reducible refine OutOK.done ?_ | refine thenQ_n ?_ | refine thenQ_r ?_ | refine thenQ_e ?_ | refine AW.seq ?_ | refine AW.reg tok (by simp [*]; rfl) ?_ | refine AW.ifB (by simp [*]; rfl) ?_ | refine IfG.t ?_ | refine IfG.f ?_ | (refine IfG.p (fun hg => ?_) (fun hg => ?_) <;> (try (have hg' := hg; simp at hg'))) | (refine IfG.n (fun hg => ?_) (fun hg => ?_) <;> (try (have hg' := hg; simp at hg'))) | (refine OutOK.gateP (fun hg => ?_) (fun hg => ?_) <;> (try (have hg' := hg; simp at hg'))) | (refine OutOK.gateN (fun hg => ?_) (fun hg => ?_) <;> (try (have hg' := hg; simp at hg'))) | (refine IfG.g (fun hg => ?_) (fun hg => ?_) <;> (try (have hg' := hg; simp at hg'))) | (refine OutOK.gate (fun hg => ?_) (fun hg => ?_) <;> (try (have hg' := hg; simp at hg'))) | refine OutOK.run (by simp [*]; rfl) ?_ | refine AW.ret ?_ | refine AW.skip ?_ | refine AW.exit ?_ | refine fin_r ?_ | refine fin_n ?_ | refine AW.block ?_ | refine blockQ_n ?_ | refine blockQ_r ?_ | refine blockQ_e ?_ | refine blockQ_o rfl ?_)
  refine AW.loopL (fun i => i ≤ xs.length ∧ (xs.take i).any p = false) (fun i => [(0, .c (.sl true 1 (ints xs))), (1, .fn f []), (7, .c (.sc (.int .i64 (xs.length : Int)))), (8, .c (.sc (.int .i64 (i : Int))))]) (fun _ => []) (fun i => xs.length - i) 0 ⟨Nat.zero_le _, by simp⟩ ⟨by simp, by simp, by simp⟩ ?_
  rintro i ⟨hi, hs⟩
  repeat' (first | with_reducible refine OutOK.done ?_ | refine thenQ_n ?_ | refine thenQ_r ?_ | refine thenQ_e ?_ | refine AW.seq ?_ | refine AW.reg tok (by simp [*]; rfl) ?_ | refine AW.ifB (by simp [*]; rfl) ?_ | refine IfG.t ?_ | refine IfG.f ?_ | (refine IfG.p (fun hg => ?_) (fun hg => ?_) <;> (try (have hg' := hg; simp at hg'))) | (refine IfG.n (fun hg => ?_) (fun hg => ?_) <;> (try (have hg' := hg; simp at hg'))) | (refine OutOK.gateP (fun hg => ?_) (fun hg => ?_) <;> (try (have hg' := hg; simp at hg'))) | (refine OutOK.gateN (fun hg => ?_) (fun hg => ?_) <;> (try (have hg' := hg; simp at hg'))) | (refine IfG.g (fun hg => ?_) (fun hg => ?_) <;> (try (have hg' := hg; simp at hg'))) | (refine OutOK.gate (fun hg => ?_) (fun hg => ?_) <;> (try (have hg' := hg; simp at hg'))) | refine OutOK.callF [] (by simp [*]; rfl) (by simp [*]; rfl) (by simp [*]; rfl) hbf (by apply cf <;> first | assumption | exact Hd.out (by assumption) | omega) ⟨by simp [*], by simp [*], by simp [*], by simp [*], by simp [*]⟩ (by simp [*]) (by simp [*]; rfl) ?_ | refine OutOK.run (by simp [*]; rfl) ?_ | refine AW.ret ?_ | refine AW.skip ?_ | refine AW.exit ?_ | refine fin_r ?_ | refine fin_n ?_ | refine AW.block ?_ | refine blockQ_n ?_ | refine blockQ_r ?_ | refine blockQ_e ?_ | refine blockQ_o rfl ?_)
  · rename_i h1
    simp [Try.f85, idx_at h1 hs hg]
  · rename_i h1
    refine ⟨i + 1, ⟨h1, any_more h1 hs hg⟩, ⟨?_, by simp, by simp⟩, by omega⟩
    simp
    rw [w64 (by omega) (by omega)]
  · simp [Try.f85, idx_none (any_end hg' hs)]
theorem c_slices_ContainsFunc_int_int (xs : List Int) (f : Nat) (p : Int → Bool) (h : xs.length < 9223372036854775807) (hbf : HasBody Try.prog f) (cf : ∀ n : Int, ACall Try.prog f [int n] [.x] [boo (p n)]) : ACall Try.prog 57 [.v (.sl true 1 (ints xs)), .f f []] [.x, .x] [boo (xs.any p)] := by
  refine ACall.of (N := 9) tok Try.func57 rfl rfl rfl (by simp) ?_
  repeat' (first | with_reducible refine OutOK.done ?_ | refine thenQ_n ?_ | refine thenQ_r ?_ | refine thenQ_e ?_ | refine AW.seq ?_ | refine AW.reg tok (by simp [*]; rfl) ?_ | refine AW.ifB (by simp [*]; rfl) ?_ | refine IfG.t ?_ | refine IfG.f ?_ | (refine IfG.p (fun hg => ?_) (fun hg => ?_) <;> (try (have hg' := hg; simp at hg'))) | (refine IfG.n (fun hg => ?_) (fun hg => ?_) <;> (try (have hg' := hg; simp at hg'))) | (refine OutOK.gateP (fun hg => ?_) (fun hg => ?_) <;> (try (have hg' := hg; simp at hg'))) | (refine OutOK.gateN (fun hg => ?_) (fun hg => ?_) <;> (try (have hg' := hg; simp at hg'))) | (refine IfG.g (fun hg => ?_) (fun hg => ?_) <;> (try (have hg' := hg; simp at hg'))) | (refine OutOK.gate (fun hg => ?_) (fun hg => ?_) <;> (try (have hg' := hg; simp at hg'))) | refine OutOK.callF [] (by simp [*]; rfl) (by simp [*]; rfl) (by simp [*]; rfl) hb85 (by apply c_slices_IndexFunc_int_int <;> first | assumption | exact Hd.out (by assumption) | omega) ⟨by simp [*], by simp [*], by simp [*], by simp [*], by simp [*]⟩ (by simp [*]) (by simp [*]; rfl) ?_ | refine OutOK.run (by simp [*]; rfl) ?_ | refine AW.ret ?_ | refine AW.skip ?_ | refine AW.exit ?_ | refine fin_r ?_ | refine fin_n ?_ | refine AW.block ?_ | refine blockQ_n ?_ | refine blockQ_r ?_ | refine blockQ_e ?_ | refine blockQ_o rfl ?_)
  simp [Try.f57, idx_any]
theorem c_impl_IsValidSurface (w d : Int) (cs : List Int) (h : cs.length < 9223372036854775807) : ACall Try.prog 18 [surf w d cs] [.x] [boo (good w d cs)] := by
  have c_slices_ContainsFunc_int_int' : ACall Try.prog 57 [.v (.sl true 1 (ints cs)), .f 58 []] [.x, .x] [boo (cs.any fun n => !inR 0 10000 n)] := c_slices_ContainsFunc_int_int cs 58 _ h hb58 c_impl_IsValidSurface_1
  refine ACall.of (N := 28) tok Try.func18 rfl rfl rfl (by simp) ?_
  repeat' (first | with_reducible refine OutOK.done ?_ | refine thenQ_n ?_ | refine thenQ_r ?_ | refine thenQ_e ?_ | refine AW.seq ?_ | refine AW.reg tok (by simp [*]; rfl) ?_ | refine AW.ifB (by simp [*]; rfl) ?_ | refine IfG.t ?_ | refine IfG.f ?_ | (refine IfG.p (fun hg => ?_) (fun hg => ?_) <;> (try (have hg' := hg; simp at hg'))) | (refine IfG.n (fun hg => ?_) (fun hg => ?_) <;> (try (have hg' := hg; simp at hg'))) | (refine OutOK.gateP (fun hg => ?_) (fun hg => ?_) <;> (try (have hg' := hg; simp at hg'))) | (refine OutOK.gateN (fun hg => ?_) (fun hg => ?_) <;> (try (have hg' := hg; simp at hg'))) | (refine IfG.g (fun hg => ?_) (fun hg => ?_) <;> (try (have hg' := hg; simp at hg'))) | (refine OutOK.gate (fun hg => ?_) (fun hg => ?_) <;> (try (have hg' := hg; simp at hg'))) | refine OutOK.callF [] (by simp [*]; rfl) (by simp [*]; rfl) (by simp [*]; rfl) hb56 (by apply c_impl_within <;> first | assumption | exact Hd.out (by assumption) | omega) ⟨by simp [*], by simp [*], by simp [*], by simp [*], by simp [*]⟩ (by simp [*]) (by simp [*]; rfl) ?_ | refine OutOK.callF [] (by simp [*]; rfl) (by simp [*]; rfl) (by simp [*]; rfl) hb57 (by apply c_slices_ContainsFunc_int_int' <;> first | assumption | exact Hd.out (by assumption) | omega) ⟨by simp [*], by simp [*], by simp [*], by simp [*], by simp [*]⟩ (by simp [*]) (by simp [*]; rfl) ?_ | refine OutOK.run (by simp [*]; rfl) ?_ | refine AW.ret ?_ | refine AW.skip ?_ | refine AW.exit ?_ | refine fin_r ?_ | refine fin_n ?_ | refine AW.block ?_ | refine blockQ_n ?_ | refine blockQ_r ?_ | refine blockQ_e ?_ | refine blockQ_o rfl ?_)
  · rename_i h1 h2
    have h3' : (cs.length : Int) = w * d := by rw [← (area h1 h2).1]; exact hg
    simp [Try.f18, good, h1, h2, h3', List.any_eq_not_all_not]
  · rename_i h1 h2
    have h3' : ¬ (cs.length : Int) = w * d := by rw [← (area h1 h2).1]; exact hg
    simp [Try.f18, good, h1, h2, h3']
  · rename_i h1
    simp [Try.f18, good, h1, hg]
  · simp [Try.f18, good, hg]
end Go.Proofs.Ytgojidjfidldbaa.EngS


set_option linter.unusedSimpArgs false
set_option linter.unusedVariables false
namespace Go.Proofs.Ytgojidjfidldbaa.EngS
open Go Go.Proofs Go.Eng Go.RowKit
def rowC (w y n : Nat) : List Nat := (List.range n).map fun x => y * w + x
def cellC (w : Nat) : Nat → List Nat
  | 0 => []
  | y + 1 => cellC w y ++ rowC w y (w - 1)
theorem rowC_succ (w y n) : rowC w y (n + 1) = rowC w y n ++ [y * w + n] := by simp [rowC, List.range_succ]
theorem cellC_succ (w y) : cellC w (y + 1) = cellC w y ++ rowC w y (w - 1) := rfl
theorem inside {w d y x : Nat} (hx : x + 1 < w) (hy : y + 1 < d) : y * w + x + w + 1 < w * d := by
  have : (y + 2) * w ≤ d * w := Nat.mul_le_mul_right w (by omega)
  rw [Nat.mul_comm w d]
  rw [Nat.add_mul] at this
  omega
structure CellEq (w y x n n1 m m1 : Nat) : Prop where
  e1 : n = y * w + x
  e2 : n1 = n + 1
  e3 : m = n + w
  e4 : m1 = n + w + 1
theorem cell_facts {w d y x len : Nat} (hw : w ≤ 8) (hd : d ≤ 8) (hx : x + 1 < w) (hy : y + 1 < d) (h : len = w * d) : ∃ n n1 m m1 : Nat, CellEq w y x n n1 m m1 ∧
    wrap64 (wrap64 ((y : Int) * (w : Int)) + (x : Int)) = (n : Int) ∧ wrap64 ((n : Int) + 1) = (n1 : Int) ∧ wrap64 ((n : Int) + (w : Int)) = (m : Int) ∧ wrap64 ((m : Int) + 1) = (m1 : Int) ∧ n < len ∧ n1 < len ∧ m < len ∧ m1 < len := by
  have h1 := inside hx hy
  have h2 : w * d ≤ 8 * 8 := Nat.mul_le_mul hw hd
  have h3 : (y : Int) * (w : Int) = ((y * w : Nat) : Int) := by simp
  generalize hk : y * w = k at *
  refine ⟨k + x, k + x + 1, k + x + w, k + x + w + 1, ⟨by rw [hk], rfl, rfl, rfl⟩, ?_, ?_, ?_, ?_, by omega, by omega, by omega, by omega⟩
  · rw [h3, w64 (x := (k : Int)) (by omega) (by omega), w64 (by omega) (by omega)]; simp
  · rw [w64 (by omega) (by omega)]; simp
  · rw [w64 (by omega) (by omega)]; simp
  · rw [w64 (by omega) (by omega)]; simp
end Go.Proofs.Ytgojidjfidldbaa.EngS


set_option linter.unusedSimpArgs false
set_option linter.unusedVariables false
namespace Go.Proofs.Ytgojidjfidldbaa.EngS
open Go Go.Proofs Go.Eng Go.RowKit
theorem c_impl_Surface_cells (w d : Nat) (cs : List Int) (f : Nat) (C1 C2 : List Nat → List PV) (h1 : 2 ≤ w) (h2 : w ≤ 8) (h3 : 2 ≤ d) (h4 : d ≤ 8) (h : cs.length = w * d) (hbf : HasBody Try.prog f)
    (cf : ∀ (pre : List Nat) (n n1 m m1 : Nat), n1 = n + 1 → m = n + w → m1 = n + w + 1 → m1 < cs.length → ACall Try.prog f [int n, int n1, int m, int m1, .p (C1 pre), .p (C2 pre)] [.x, .x, .x, .x, .p (C1 (pre ++ [n])), .p (C2 (pre ++ [n]))] []) :
    ACall Try.prog 74 [surf w d cs, .f f [C1 [], C2 []]] [.x, .f f [C1 (cellC w (d - 1)), C2 (cellC w (d - 1))]] [] := by
  have e8 : wrap64 ((w : Int) - 1) = ((w - 1 : Nat) : Int) := by rw [w64 (by omega) (by omega)]; omega
  have e9 : wrap64 ((d : Int) - 1) = ((d - 1 : Nat) : Int) := by rw [w64 (by omega) (by omega)]; omega
  have hW : Hd (w - 1 + 1 = w) := Hd.mk (by omega)
  have hD : Hd (d - 1 + 1 = d) := Hd.mk (by omega)
  generalize w - 1 = w1 at *
  generalize d - 1 = d1 at *
  refine ACall.of (N := 41) tok Try.func74 rfl rfl rfl (by simp) ?_
  repeat' (first | with_reducible refine OutOK.done ?_ | refine thenQ_n ?_ | refine thenQ_r ?_ | refine thenQ_e ?_ | refine AW.seq ?_ | refine AW.reg tok (by simp [*]; rfl) ?_ | refine AW.ifB (by simp [*]; rfl) ?_ | refine IfG.t ?_ | refine IfG.f ?_ | (refine IfG.p (fun hg => ?_) (fun hg => ?_) <;> (try (have hg' := hg; simp at hg'))) | (refine IfG.n (fun hg => ?_) (fun hg => ?_) <;> (try (have hg' := hg; simp at hg'))) | (refine OutOK.gateP (fun hg => ?_) (fun hg => ?_) <;> (try (have hg' := hg; simp at hg'))) | (refine OutOK.gateN (fun hg => ?_) (fun hg => ?_) <;> (try (have hg' := hg; simp at hg'))) | (refine IfG.g (fun hg => ?_) (fun hg => ?_) <;> (try (have hg' := hg; simp at hg'))) | (refine OutOK.gate (fun hg => ?_) (fun hg => ?_) <;> (try (have hg' := hg; simp at hg'))) | refine OutOK.run (by simp [*]; rfl) ?_ | refine AW.ret ?_ | refine AW.skip ?_ | refine AW.exit ?_ | refine fin_r ?_ | refine fin_n ?_ | refine AW.block ?_ | refine blockQ_n ?_ | refine blockQ_r ?_ | refine blockQ_e ?_ | refine blockQ_o rfl ?_)
  refine AW.loopL (fun y => y ≤ d1) (fun y => [(1, .fn f [.pt 100000051 [] 0, .pt 100000052 [] 0]), (2, .pt 2000 [] 0), (9, .c (.sc (.int .i64 (d1 : Int)))), (10, .c (.sc (.int .i64 (y : Int))))])
    (fun y => [(2000, .bx [.sc (.int .i64 w), .sc (.int .i64 d), .sl true 1 (ints cs)]), (100000051, .bx (C1 (cellC w y))), (100000052, .bx (C2 (cellC w y)))]) (fun y => d1 - y) 0 (by omega) ⟨by simp [*], by simp [cellC], by simp⟩ ?_
  intro y hy
  rcases Nat.lt_or_ge y d1 with hy1 | hy1
  · have hyd : y + 1 < d := by have := hD.out; clear e8 e9; omega
    have e1 : wrap64 ((y : Int) + 1) = (y : Int) + 1 := w64 (by clear e8 e9; omega) (by clear e8 e9; omega)
    repeat' (first | with_reducible refine OutOK.done ?_ | refine thenQ_n ?_ | refine thenQ_r ?_ | refine thenQ_e ?_ | refine AW.seq ?_ | refine AW.reg tok (by simp [*]; rfl) ?_ | refine AW.ifB (by simp [*]; rfl) ?_ | refine IfG.t ?_ | refine IfG.f ?_ | (refine IfG.p (fun hg => ?_) (fun hg => ?_) <;> (try (have hg' := hg; simp at hg'))) | (refine IfG.n (fun hg => ?_) (fun hg => ?_) <;> (try (have hg' := hg; simp at hg'))) | (refine OutOK.gateP (fun hg => ?_) (fun hg => ?_) <;> (try (have hg' := hg; simp at hg'))) | (refine OutOK.gateN (fun hg => ?_) (fun hg => ?_) <;> (try (have hg' := hg; simp at hg'))) | (refine IfG.g (fun hg => ?_) (fun hg => ?_) <;> (try (have hg' := hg; simp at hg'))) | (refine OutOK.gate (fun hg => ?_) (fun hg => ?_) <;> (try (have hg' := hg; simp at hg'))) | refine OutOK.run (by simp [*]; rfl) ?_ | refine AW.ret ?_ | refine AW.skip ?_ | refine AW.exit ?_ | refine fin_r ?_ | refine fin_n ?_ | refine AW.block ?_ | refine blockQ_n ?_ | refine blockQ_r ?_ | refine blockQ_e ?_ | refine blockQ_o rfl ?_)
    refine AW.loopL (fun x => x ≤ w1) (fun x => [(1, .fn f [.pt 100000051 [] 0, .pt 100000052 [] 0]), (2, .pt 2000 [] 0), (4, .c (.sc (.int .i64 (y : Int)))), (9, .c (.sc (.int .i64 (d1 : Int)))), (10, .c (.sc (.int .i64 (y : Int)))), (15, .c (.sc (.int .i64 (w1 : Int)))), (16, .c (.sc (.int .i64 (x : Int))))])
      (fun x => [(2000, .bx [.sc (.int .i64 w), .sc (.int .i64 d), .sl true 1 (ints cs)]), (100000051, .bx (C1 (cellC w y ++ rowC w y x))), (100000052, .bx (C2 (cellC w y ++ rowC w y x)))]) (fun x => w1 - x) 0 (by omega) ⟨by simp [*], by simp [rowC], by simp⟩ ?_
    intro x hx
    rcases Nat.lt_or_ge x w1 with hx1 | hx1
    · have hxw : x + 1 < w := by have := hW.out; clear e8 e9 e1; omega
      have e2 : wrap64 ((x : Int) + 1) = (x : Int) + 1 := w64 (by clear e1 e8 e9; omega) (by clear e1 e8 e9; omega)
      obtain ⟨n, n1, m, m1, hE, g1, g2, g3, g4, l1, l2, l3, l4⟩ := cell_facts h2 h4 hxw hyd h
      have cf' := cf (cellC w y ++ rowC w y x) n n1 m m1 hE.e2 hE.e3 hE.e4 l4
      clear h hx hy cf
      repeat' (first | with_reducible refine OutOK.done ?_ | refine thenQ_n ?_ | refine thenQ_r ?_ | refine thenQ_e ?_ | refine AW.seq ?_ | refine AW.reg tok (by simp [*]; rfl) ?_ | refine AW.ifB (by simp [*]; rfl) ?_ | refine IfG.t ?_ | refine IfG.f ?_ | (refine IfG.p (fun hg => ?_) (fun hg => ?_) <;> (try (have hg' := hg; simp at hg'))) | (refine IfG.n (fun hg => ?_) (fun hg => ?_) <;> (try (have hg' := hg; simp at hg'))) | (refine OutOK.gateP (fun hg => ?_) (fun hg => ?_) <;> (try (have hg' := hg; simp at hg'))) | (refine OutOK.gateN (fun hg => ?_) (fun hg => ?_) <;> (try (have hg' := hg; simp at hg'))) | (refine IfG.g (fun hg => ?_) (fun hg => ?_) <;> (try (have hg' := hg; simp at hg'))) | (refine OutOK.gate (fun hg => ?_) (fun hg => ?_) <;> (try (have hg' := hg; simp at hg'))) | refine OutOK.callF [] (by simp [*]; rfl) (by simp [*]; rfl) (by simp [*]; rfl) hbf (by apply cf' <;> first | assumption | exact Hd.out (by assumption) | omega) ⟨by simp [*], by simp [*], by simp [*], by simp [*], by simp [*]⟩ (by simp [*]) (by simp [*]; rfl) ?_ | refine OutOK.run (by simp [*]; rfl) ?_ | refine AW.ret ?_ | refine AW.skip ?_ | refine AW.exit ?_ | refine fin_r ?_ | refine fin_n ?_ | refine AW.block ?_ | refine blockQ_n ?_ | refine blockQ_r ?_ | refine blockQ_e ?_ | refine blockQ_o rfl ?_)
      have hn := hE.e1
      refine ⟨x + 1, by omega, ⟨?_, ?_, by simp⟩, by clear e1 e2 e8 e9 g1 g2 g3 g4; omega⟩
      · simp [e2]
      · simp [rowC_succ, hn]
    · have hxw : x = w1 := by clear e1 e8 e9; omega
      have hcx : ¬ (x : Int) < w1 := by clear e1 e8 e9; omega
      have hw : w - 1 = w1 := by have := hW.out; clear e8 e9 e1; omega
      clear h hx cf
      rw [hxw]
      repeat' (first | with_reducible refine OutOK.done ?_ | refine thenQ_n ?_ | refine thenQ_r ?_ | refine thenQ_e ?_ | refine AW.seq ?_ | refine AW.reg tok (by simp [*]; rfl) ?_ | refine AW.ifB (by simp [*]; rfl) ?_ | refine IfG.t ?_ | refine IfG.f ?_ | (refine IfG.p (fun hg => ?_) (fun hg => ?_) <;> (try (have hg' := hg; simp at hg'))) | (refine IfG.n (fun hg => ?_) (fun hg => ?_) <;> (try (have hg' := hg; simp at hg'))) | (refine OutOK.gateP (fun hg => ?_) (fun hg => ?_) <;> (try (have hg' := hg; simp at hg'))) | (refine OutOK.gateN (fun hg => ?_) (fun hg => ?_) <;> (try (have hg' := hg; simp at hg'))) | (refine IfG.g (fun hg => ?_) (fun hg => ?_) <;> (try (have hg' := hg; simp at hg'))) | (refine OutOK.gate (fun hg => ?_) (fun hg => ?_) <;> (try (have hg' := hg; simp at hg'))) | refine OutOK.run (by simp [*]; rfl) ?_ | refine AW.ret ?_ | refine AW.skip ?_ | refine AW.exit ?_ | refine fin_r ?_ | refine fin_n ?_ | refine AW.block ?_ | refine blockQ_n ?_ | refine blockQ_r ?_ | refine blockQ_e ?_ | refine blockQ_o rfl ?_)
      refine ⟨y + 1, by clear e1 e8 e9; omega, ⟨?_, ?_, by simp⟩, by clear e1 e8 e9; omega⟩
      · simp [e1]
      · simp [cellC_succ, hw]
  · have hyd : y = d1 := by clear e8 e9; omega
    rw [hyd]
    clear h cf
    repeat' (first | with_reducible refine OutOK.done ?_ | refine thenQ_n ?_ | refine thenQ_r ?_ | refine thenQ_e ?_ | refine AW.seq ?_ | refine AW.reg tok (by simp [*]; rfl) ?_ | refine AW.ifB (by simp [*]; rfl) ?_ | refine IfG.t ?_ | refine IfG.f ?_ | (refine IfG.p (fun hg => ?_) (fun hg => ?_) <;> (try (have hg' := hg; simp at hg'))) | (refine IfG.n (fun hg => ?_) (fun hg => ?_) <;> (try (have hg' := hg; simp at hg'))) | (refine OutOK.gateP (fun hg => ?_) (fun hg => ?_) <;> (try (have hg' := hg; simp at hg'))) | (refine OutOK.gateN (fun hg => ?_) (fun hg => ?_) <;> (try (have hg' := hg; simp at hg'))) | (refine IfG.g (fun hg => ?_) (fun hg => ?_) <;> (try (have hg' := hg; simp at hg'))) | (refine OutOK.gate (fun hg => ?_) (fun hg => ?_) <;> (try (have hg' := hg; simp at hg'))) | refine OutOK.run (by simp [*]; rfl) ?_ | refine AW.ret ?_ | refine AW.skip ?_ | refine AW.exit ?_ | refine fin_r ?_ | refine fin_n ?_ | refine AW.block ?_ | refine blockQ_n ?_ | refine blockQ_r ?_ | refine blockQ_e ?_ | refine blockQ_o rfl ?_)
    simp [Try.f74]
end Go.Proofs.Ytgojidjfidldbaa.EngS


set_option linter.unusedSimpArgs false
set_option linter.unusedVariables false
namespace Go.Proofs.Ytgojidjfidldbaa.EngS
open Go Go.Proofs Go.Eng Go.RowKit
theorem good_nat {w d : Int} {cs : List Int} (h : good w d cs = true) : ∃ W D : Nat, w = W ∧ d = D ∧ 2 ≤ W ∧ W ≤ 8 ∧ 2 ≤ D ∧ D ≤ 8 ∧ cs.length = W * D ∧ ∀ x ∈ cs, 0 ≤ x ∧ x ≤ 10000 := by
  simp only [good, Bool.and_eq_true, inR_iff, decide_eq_true_eq] at h
  obtain ⟨⟨⟨h1, h2⟩, h3⟩, h4⟩ := h
  refine ⟨w.toNat, d.toNat, by omega, by omega, by omega, by omega, by omega, by omega, ?_, fun x hx => inR_iff.1 (List.all_eq_true.1 h4 x hx)⟩
  have : ((w.toNat * d.toNat : Nat) : Int) = w * d := by rw [Int.natCast_mul, Int.toNat_of_nonneg (by omega), Int.toNat_of_nonneg (by omega)]
  omega
end Go.Proofs.Ytgojidjfidldbaa.EngS
namespace Go.Proofs.Ytgojidjfidldbaa.EngS
open Go Go.Proofs Go.Eng Go.RowKit
end Go.Proofs.Ytgojidjfidldbaa.EngS


set_option linter.unusedSimpArgs false
set_option linter.unusedVariables false
namespace Go.Proofs.Ytgojidjfidldbaa.EngS
open Go Go.Proofs Go.Eng Go.RowKit
@[simp] theorem ints_coks (xs : List Int) : PV.coks (ints xs) = true := by
  induction xs with
  | nil => rfl
  | cons x xs ih => simpa [ints] using ih
@[simp] theorem ints_eq_nil (xs : List Int) : ints xs = [] ↔ xs = [] := by simp [ints]
@[simp] theorem ints_nil : ints [] = [] := rfl
@[simp] theorem ints_snoc (xs : List Int) (y : Int) : ints xs ++ [.sc (.int .i64 y)] = ints (xs ++ [y]) := by simp [ints]
theorem c_slices_Clone_int_int (xs : List Int) (h : xs.length ≤ 1048576) : ACall Try.prog 67 [.v (.sl true 1 (ints xs))] [.x] [.v (.sl false 1 (ints xs))] := by
  have h1 : (xs.length : Int) * 8 ≤ 140737488355328 := by omega
  have h2 : (xs.length : Int) ≤ 4611686018427387904 := by omega
  have h3 : xs.length * 8 ≤ 140737488355328 := by omega
  have h4 : xs.length ≤ 4611686018427387904 := by omega
  refine ACall.of (N := 8) tok Try.func67 rfl rfl rfl (by simp) ?_
  repeat' (first | with_reducible refine OutOK.done ?_ | refine thenQ_n ?_ | refine thenQ_r ?_ | refine thenQ_e ?_ | refine AW.seq ?_ | (refine AW.isNil tok rfl rfl rfl (by simp [*]; rfl) (by simp [*]; done) (by decide) ?_; intro hb hc; cases hb <;> simp at hc) | refine AW.reg tok (by simp [*]; rfl) ?_ | refine AW.ifB (by simp [*]; rfl) ?_ | refine IfG.t ?_ | refine IfG.f ?_ | (refine IfG.p (fun hg => ?_) (fun hg => ?_) <;> (try (have hg' := hg; simp at hg'))) | (refine IfG.n (fun hg => ?_) (fun hg => ?_) <;> (try (have hg' := hg; simp at hg'))) | (refine OutOK.gateP (fun hg => ?_) (fun hg => ?_) <;> (try (have hg' := hg; simp at hg'))) | (refine OutOK.gateN (fun hg => ?_) (fun hg => ?_) <;> (try (have hg' := hg; simp at hg'))) | (refine IfG.g (fun hg => ?_) (fun hg => ?_) <;> (try (have hg' := hg; simp at hg'))) | (refine OutOK.gate (fun hg => ?_) (fun hg => ?_) <;> (try (have hg' := hg; simp at hg'))) | refine OutOK.run (by simp [*]; rfl) ?_ | refine AW.ret ?_ | refine AW.skip ?_ | refine AW.exit ?_ | refine fin_r ?_ | refine fin_n ?_ | refine AW.block ?_ | refine blockQ_n ?_ | refine blockQ_r ?_ | refine blockQ_e ?_ | refine blockQ_o rfl ?_)
  all_goals (try simp [*, Try.f67])
theorem c_spec_l1Most (a b : Int) : ACall Try.prog 66 [int a, int b] [.x, .x] [int (max a b)] := by
  refine ACall.of (N := 10) tok Try.func66 rfl rfl rfl (by simp) ?_
  repeat' (first | with_reducible refine OutOK.done ?_ | refine thenQ_n ?_ | refine thenQ_r ?_ | refine thenQ_e ?_ | refine AW.seq ?_ | refine AW.reg tok (by simp [*]; rfl) ?_ | refine AW.ifB (by simp [*]; rfl) ?_ | refine IfG.t ?_ | refine IfG.f ?_ | (refine IfG.p (fun hg => ?_) (fun hg => ?_) <;> (try (have hg' := hg; simp at hg'))) | (refine IfG.n (fun hg => ?_) (fun hg => ?_) <;> (try (have hg' := hg; simp at hg'))) | (refine OutOK.gateP (fun hg => ?_) (fun hg => ?_) <;> (try (have hg' := hg; simp at hg'))) | (refine OutOK.gateN (fun hg => ?_) (fun hg => ?_) <;> (try (have hg' := hg; simp at hg'))) | (refine IfG.g (fun hg => ?_) (fun hg => ?_) <;> (try (have hg' := hg; simp at hg'))) | (refine OutOK.gate (fun hg => ?_) (fun hg => ?_) <;> (try (have hg' := hg; simp at hg'))) | refine OutOK.run (by simp [*]; rfl) ?_ | refine AW.ret ?_ | refine AW.skip ?_ | refine AW.exit ?_ | refine fin_r ?_ | refine fin_n ?_ | refine AW.block ?_ | refine blockQ_n ?_ | refine blockQ_r ?_ | refine blockQ_e ?_ | refine blockQ_o rfl ?_)
  · have : max a b = a := by omega
    simp [Try.f66, this]
  · have : max a b = b := by omega
    simp [Try.f66, this]
def upTo (k : Int) (n : Nat) : List Int := (List.range n).map fun i : Nat => k + (i : Int)
@[simp] theorem upTo_len (k n) : (upTo k n).length = n := by simp [upTo]
@[simp] theorem upTo_at (k n i) (h : i < (upTo k n).length) : (upTo k n)[i] = k + i := by simp [upTo]
def marked (k : Int) (xs : List Int) (i : Nat) : List Int := (List.range xs.length).map fun j => if j < i then k + j else xs[j]?.getD 0
@[simp] theorem marked_len (k xs i) : (marked k xs i).length = xs.length := by simp [marked]
theorem marked_zero (k xs) : marked k xs 0 = xs := by
  apply List.ext_getElem
  · simp
  · intro j h1 h2; simp [marked, h2]
theorem marked_all (k xs) : marked k xs xs.length = upTo k xs.length := by
  apply List.ext_getElem
  · simp
  · intro j h1 h2; simp at h1; simp [marked, upTo, h1]
theorem marked_step (k xs i) (h : i < xs.length) : (marked k xs i).set i (k + i) = marked k xs (i + 1) := by
  apply List.ext_getElem
  · simp
  · intro j h1 h2
    simp at h1
    rw [List.getElem_set]
    split
    · rename_i e; subst e; simp [marked]
    · rename_i e
      simp only [marked, List.getElem_map, List.getElem_range]
      by_cases hj : j < i
      · rw [if_pos hj, if_pos (by omega)]
      · rw [if_neg hj, if_neg (by omega)]
theorem c_laws_markIntS (xs : List Int) (k : Int) (h : xs.length ≤ 1048576) (h1 : 0 ≤ k) (h2 : k ≤ 1000000000000) : ACall Try.prog 41 [.v (.sl false 1 (ints xs)), int k] [.v (.sl false 1 (ints (upTo k xs.length))), .x] [int (k + xs.length)] := by
  refine ACall.of (N := 19) tok Try.func41 rfl rfl rfl (by simp) ?_
  repeat' (first | with_reducible refine OutOK.done ?_ | refine thenQ_n ?_ | refine thenQ_r ?_ | refine thenQ_e ?_ | refine AW.seq ?_ | refine AW.reg tok (by simp [*]; rfl) ?_ | refine AW.ifB (by simp [*]; rfl) ?_ | refine IfG.t ?_ | refine IfG.f ?_ | (refine IfG.p (fun hg => ?_) (fun hg => ?_) <;> (try (have hg' := hg; simp at hg'))) | (refine IfG.n (fun hg => ?_) (fun hg => ?_) <;> (try (have hg' := hg; simp at hg'))) | (refine OutOK.gateP (fun hg => ?_) (fun hg => ?_) <;> (try (have hg' := hg; simp at hg'))) | (refine OutOK.gateN (fun hg => ?_) (fun hg => ?_) <;> (try (have hg' := hg; simp at hg'))) | (refine IfG.g (fun hg => ?_) (fun hg => ?_) <;> (try (have hg' := hg; simp at hg'))) | (refine OutOK.gate (fun hg => ?_) (fun hg => ?_) <;> (try (have hg' := hg; simp at hg'))) | refine OutOK.run (by simp [*]; rfl) ?_ | refine AW.ret ?_ | refine AW.skip ?_ | refine AW.exit ?_ | refine fin_r ?_ | refine fin_n ?_ | refine AW.block ?_ | refine blockQ_n ?_ | refine blockQ_r ?_ | refine blockQ_e ?_ | refine blockQ_o rfl ?_)
  refine AW.loopL (fun i => i ≤ xs.length) (fun i => [(0, .rf 100000000 []), (1, .c (.sc (.int .i64 (k + (i : Int))))), (5, .c (.sc (.int .i64 (i : Int))))]) (fun i => [(100000000, .sv (.sl false 1 (ints (marked k xs i))))]) (fun i => xs.length - i) 0 (Nat.zero_le _) ⟨by simp, by simp [marked_zero], by simp⟩ ?_
  intro i hi
  rcases Nat.lt_or_ge i xs.length with hl | hl
  · have e1 : wrap64 ((i : Int) + 1) = (i : Int) + 1 := w64 (by omega) (by omega)
    have e2 : wrap64 (k + (i : Int) + 1) = k + (i : Int) + 1 := w64 (by clear e1; omega) (by clear e1; omega)
    repeat' (first | with_reducible refine OutOK.done ?_ | refine thenQ_n ?_ | refine thenQ_r ?_ | refine thenQ_e ?_ | refine AW.seq ?_ | refine AW.reg tok (by simp [*]; rfl) ?_ | refine AW.ifB (by simp [*]; rfl) ?_ | refine IfG.t ?_ | refine IfG.f ?_ | (refine IfG.p (fun hg => ?_) (fun hg => ?_) <;> (try (have hg' := hg; simp at hg'))) | (refine IfG.n (fun hg => ?_) (fun hg => ?_) <;> (try (have hg' := hg; simp at hg'))) | (refine OutOK.gateP (fun hg => ?_) (fun hg => ?_) <;> (try (have hg' := hg; simp at hg'))) | (refine OutOK.gateN (fun hg => ?_) (fun hg => ?_) <;> (try (have hg' := hg; simp at hg'))) | (refine IfG.g (fun hg => ?_) (fun hg => ?_) <;> (try (have hg' := hg; simp at hg'))) | (refine OutOK.gate (fun hg => ?_) (fun hg => ?_) <;> (try (have hg' := hg; simp at hg'))) | refine OutOK.run (by simp [*]; rfl) ?_ | refine AW.ret ?_ | refine AW.skip ?_ | refine AW.exit ?_ | refine fin_r ?_ | refine fin_n ?_ | refine AW.block ?_ | refine blockQ_n ?_ | refine blockQ_r ?_ | refine blockQ_e ?_ | refine blockQ_o rfl ?_)
    refine ⟨i + 1, by omega, ⟨?_, ?_, by simp⟩, by clear e1 e2; omega⟩
    · simp [e1, e2]; omega
    · simp [marked_step _ _ _ hl]
  · have hx : i = xs.length := by omega
    subst hx
    repeat' (first | with_reducible refine OutOK.done ?_ | refine thenQ_n ?_ | refine thenQ_r ?_ | refine thenQ_e ?_ | refine AW.seq ?_ | refine AW.reg tok (by simp [*]; rfl) ?_ | refine AW.ifB (by simp [*]; rfl) ?_ | refine IfG.t ?_ | refine IfG.f ?_ | (refine IfG.p (fun hg => ?_) (fun hg => ?_) <;> (try (have hg' := hg; simp at hg'))) | (refine IfG.n (fun hg => ?_) (fun hg => ?_) <;> (try (have hg' := hg; simp at hg'))) | (refine OutOK.gateP (fun hg => ?_) (fun hg => ?_) <;> (try (have hg' := hg; simp at hg'))) | (refine OutOK.gateN (fun hg => ?_) (fun hg => ?_) <;> (try (have hg' := hg; simp at hg'))) | (refine IfG.g (fun hg => ?_) (fun hg => ?_) <;> (try (have hg' := hg; simp at hg'))) | (refine OutOK.gate (fun hg => ?_) (fun hg => ?_) <;> (try (have hg' := hg; simp at hg'))) | refine OutOK.run (by simp [*]; rfl) ?_ | refine AW.ret ?_ | refine AW.skip ?_ | refine AW.exit ?_ | refine fin_r ?_ | refine fin_n ?_ | refine AW.block ?_ | refine blockQ_n ?_ | refine blockQ_r ?_ | refine blockQ_e ?_ | refine blockQ_o rfl ?_)
    simp [Try.f41, marked_all]
theorem c_laws_heldIntS (n : Nat) (k : Int) (h : n ≤ 1048576) (h1 : 0 ≤ k) (h2 : k ≤ 1000000000000) : ACall Try.prog 42 [.v (.sl true 1 (ints (upTo k n))), int k] [.x, .x] [int (k + n)] := by
  refine ACall.of (N := 21) tok Try.func42 rfl rfl rfl (by simp) ?_
  repeat' (first | with_reducible refine OutOK.done ?_ | refine thenQ_n ?_ | refine thenQ_r ?_ | refine thenQ_e ?_ | refine AW.seq ?_ | refine AW.reg tok (by simp [*]; rfl) ?_ | refine AW.ifB (by simp [*]; rfl) ?_ | refine IfG.t ?_ | refine IfG.f ?_ | (refine IfG.p (fun hg => ?_) (fun hg => ?_) <;> (try (have hg' := hg; simp at hg'))) | (refine IfG.n (fun hg => ?_) (fun hg => ?_) <;> (try (have hg' := hg; simp at hg'))) | (refine OutOK.gateP (fun hg => ?_) (fun hg => ?_) <;> (try (have hg' := hg; simp at hg'))) | (refine OutOK.gateN (fun hg => ?_) (fun hg => ?_) <;> (try (have hg' := hg; simp at hg'))) | (refine IfG.g (fun hg => ?_) (fun hg => ?_) <;> (try (have hg' := hg; simp at hg'))) | (refine OutOK.gate (fun hg => ?_) (fun hg => ?_) <;> (try (have hg' := hg; simp at hg'))) | refine OutOK.run (by simp [*]; rfl) ?_ | refine AW.ret ?_ | refine AW.skip ?_ | refine AW.exit ?_ | refine fin_r ?_ | refine fin_n ?_ | refine AW.block ?_ | refine blockQ_n ?_ | refine blockQ_r ?_ | refine blockQ_e ?_ | refine blockQ_o rfl ?_)
  refine AW.loopL (fun i => i ≤ n) (fun i => [(0, .c (.sl true 1 (ints (upTo k n)))), (1, .c (.sc (.int .i64 (k + (i : Int))))), (5, .c (.sc (.int .i64 (i : Int))))]) (fun i => []) (fun i => n - i) 0 (Nat.zero_le _) ⟨by simp, by simp, by simp⟩ ?_
  intro i hi
  rcases Nat.lt_or_ge i n with hl | hl
  · have e1 : wrap64 ((i : Int) + 1) = (i : Int) + 1 := w64 (by omega) (by omega)
    have e2 : wrap64 (k + (i : Int) + 1) = k + (i : Int) + 1 := w64 (by clear e1; omega) (by clear e1; omega)
    repeat' (first | with_reducible refine OutOK.done ?_ | refine thenQ_n ?_ | refine thenQ_r ?_ | refine thenQ_e ?_ | refine AW.seq ?_ | refine AW.reg tok (by simp [*]; rfl) ?_ | refine AW.ifB (by simp [*]; rfl) ?_ | refine IfG.t ?_ | refine IfG.f ?_ | (refine IfG.p (fun hg => ?_) (fun hg => ?_) <;> (try (have hg' := hg; simp at hg'))) | (refine IfG.n (fun hg => ?_) (fun hg => ?_) <;> (try (have hg' := hg; simp at hg'))) | (refine OutOK.gateP (fun hg => ?_) (fun hg => ?_) <;> (try (have hg' := hg; simp at hg'))) | (refine OutOK.gateN (fun hg => ?_) (fun hg => ?_) <;> (try (have hg' := hg; simp at hg'))) | (refine IfG.g (fun hg => ?_) (fun hg => ?_) <;> (try (have hg' := hg; simp at hg'))) | (refine OutOK.gate (fun hg => ?_) (fun hg => ?_) <;> (try (have hg' := hg; simp at hg'))) | refine OutOK.run (by simp [*]; rfl) ?_ | refine AW.ret ?_ | refine AW.skip ?_ | refine AW.exit ?_ | refine fin_r ?_ | refine fin_n ?_ | refine AW.block ?_ | refine blockQ_n ?_ | refine blockQ_r ?_ | refine blockQ_e ?_ | refine blockQ_o rfl ?_)
    refine ⟨i + 1, by omega, ⟨?_, by simp, by simp⟩, by clear e1 e2; omega⟩
    simp [e1, e2]; omega
  · have hx : i = n := by omega
    subst hx
    repeat' (first | with_reducible refine OutOK.done ?_ | refine thenQ_n ?_ | refine thenQ_r ?_ | refine thenQ_e ?_ | refine AW.seq ?_ | refine AW.reg tok (by simp [*]; rfl) ?_ | refine AW.ifB (by simp [*]; rfl) ?_ | refine IfG.t ?_ | refine IfG.f ?_ | (refine IfG.p (fun hg => ?_) (fun hg => ?_) <;> (try (have hg' := hg; simp at hg'))) | (refine IfG.n (fun hg => ?_) (fun hg => ?_) <;> (try (have hg' := hg; simp at hg'))) | (refine OutOK.gateP (fun hg => ?_) (fun hg => ?_) <;> (try (have hg' := hg; simp at hg'))) | (refine OutOK.gateN (fun hg => ?_) (fun hg => ?_) <;> (try (have hg' := hg; simp at hg'))) | (refine IfG.g (fun hg => ?_) (fun hg => ?_) <;> (try (have hg' := hg; simp at hg'))) | (refine OutOK.gate (fun hg => ?_) (fun hg => ?_) <;> (try (have hg' := hg; simp at hg'))) | refine OutOK.run (by simp [*]; rfl) ?_ | refine AW.ret ?_ | refine AW.skip ?_ | refine AW.exit ?_ | refine fin_r ?_ | refine fin_n ?_ | refine AW.block ?_ | refine blockQ_n ?_ | refine blockQ_r ?_ | refine blockQ_e ?_ | refine blockQ_o rfl ?_)
    all_goals (try simp [*, Try.f42])
end Go.Proofs.Ytgojidjfidldbaa.EngS


set_option linter.unusedSimpArgs false
set_option linter.unusedVariables false
namespace Go.Proofs.Ytgojidjfidldbaa.EngS
open Go Go.Proofs Go.Eng Go.RowKit
end Go.Proofs.Ytgojidjfidldbaa.EngS


set_option linter.unusedSimpArgs false
set_option linter.unusedVariables false
set_option maxHeartbeats 4000000
namespace Go.Proofs.Ytgojidjfidldbaa.EngS
open Go Go.Proofs Go.Eng Go.RowKit
theorem c_laws_markSurface (w d : Int) (xs : List Int) (k : Int) (h : xs.length ≤ 1048576) (h1 : 0 ≤ k) (h2 : k ≤ 1000000000000) : ACall Try.prog 31 [surfO w d xs, int k] [.x, .x] [int (k + xs.length)] := by
  refine ACall.of (N := 10) tok Try.func31 rfl rfl rfl (by simp) ?_
  repeat' (first | with_reducible refine OutOK.done ?_ | refine thenQ_n ?_ | refine thenQ_r ?_ | refine thenQ_e ?_ | refine AW.seq ?_ | refine AW.reg tok (by simp [*]; rfl) ?_ | refine AW.ifB (by simp [*]; rfl) ?_ | refine IfG.t ?_ | refine IfG.f ?_ | (refine IfG.p (fun hg => ?_) (fun hg => ?_) <;> (try (have hg' := hg; simp at hg'))) | (refine IfG.n (fun hg => ?_) (fun hg => ?_) <;> (try (have hg' := hg; simp at hg'))) | (refine OutOK.gateP (fun hg => ?_) (fun hg => ?_) <;> (try (have hg' := hg; simp at hg'))) | (refine OutOK.gateN (fun hg => ?_) (fun hg => ?_) <;> (try (have hg' := hg; simp at hg'))) | (refine IfG.g (fun hg => ?_) (fun hg => ?_) <;> (try (have hg' := hg; simp at hg'))) | (refine OutOK.gate (fun hg => ?_) (fun hg => ?_) <;> (try (have hg' := hg; simp at hg'))) | refine OutOK.callF [true] (by simp [*]; rfl) (by simp [*]; rfl) (by simp [*]; rfl) hb41 (by apply c_laws_markIntS <;> first | assumption | exact Hd.out (by assumption) | omega) ⟨by simp [*], by simp [*], by simp [*], by simp [*], by simp [*]⟩ (by simp [*]) (by simp [*]; rfl) ?_ | refine OutOK.run (by simp [*]; rfl) ?_ | refine AW.ret ?_ | refine AW.skip ?_ | refine AW.exit ?_ | refine fin_r ?_ | refine fin_n ?_ | refine AW.block ?_ | refine blockQ_n ?_ | refine blockQ_r ?_ | refine blockQ_e ?_ | refine blockQ_o rfl ?_)
  all_goals (try simp [*, Try.f31])
def raised (cs cs' : List Int) (i : Nat) : List Int := (List.range cs.length).map fun j => if j < i then max (cs[j]?.getD 0) (cs'[j]?.getD 0) else cs[j]?.getD 0
@[simp] theorem raised_len (cs cs' i) : (raised cs cs' i).length = cs.length := by simp [raised]
theorem raised_zero (cs cs') : raised cs cs' 0 = cs := by
  apply List.ext_getElem
  · simp
  · intro j h1 h2; simp [raised, h2]
end Go.Proofs.Ytgojidjfidldbaa.EngS


set_option linter.unusedSimpArgs false
set_option linter.unusedVariables false
set_option maxHeartbeats 4000000
namespace Go.Proofs.Ytgojidjfidldbaa.EngS
open Go Go.Proofs Go.Eng Go.RowKit
theorem c_spec_l1Least (a b : Int) : ACall Try.prog 71 [int a, int b] [.x, .x] [int (min a b)] := by
  refine ACall.of (N := 10) tok Try.func71 rfl rfl rfl (by simp) ?_
  repeat' (first | with_reducible refine OutOK.done ?_ | refine thenQ_n ?_ | refine thenQ_r ?_ | refine thenQ_e ?_ | refine AW.seq ?_ | refine AW.reg tok (by simp [*]; rfl) ?_ | refine AW.ifB (by simp [*]; rfl) ?_ | refine IfG.t ?_ | refine IfG.f ?_ | (refine IfG.p (fun hg => ?_) (fun hg => ?_) <;> (try (have hg' := hg; simp at hg'))) | (refine IfG.n (fun hg => ?_) (fun hg => ?_) <;> (try (have hg' := hg; simp at hg'))) | (refine OutOK.gateP (fun hg => ?_) (fun hg => ?_) <;> (try (have hg' := hg; simp at hg'))) | (refine OutOK.gateN (fun hg => ?_) (fun hg => ?_) <;> (try (have hg' := hg; simp at hg'))) | (refine IfG.g (fun hg => ?_) (fun hg => ?_) <;> (try (have hg' := hg; simp at hg'))) | (refine OutOK.gate (fun hg => ?_) (fun hg => ?_) <;> (try (have hg' := hg; simp at hg'))) | refine OutOK.run (by simp [*]; rfl) ?_ | refine AW.ret ?_ | refine AW.skip ?_ | refine AW.exit ?_ | refine fin_r ?_ | refine fin_n ?_ | refine AW.block ?_ | refine blockQ_n ?_ | refine blockQ_r ?_ | refine blockQ_e ?_ | refine blockQ_o rfl ?_)
  · have : min a b = a := by omega
    simp [Try.f71, this]
  · have : min a b = b := by omega
    simp [Try.f71, this]
def loI (xs : List Int) (i : Nat) : Int := (xs.take i).foldl min (xs[0]?.getD 0)
def hiI (xs : List Int) (i : Nat) : Int := (xs.take i).foldl max (xs[0]?.getD 0)
theorem loI_one {xs : List Int} (h : 0 < xs.length) : loI xs 1 = xs[0] := by
  cases xs with
  | nil => cases h
  | cons x xs => simp [loI]
theorem hiI_one {xs : List Int} (h : 0 < xs.length) : hiI xs 1 = xs[0] := by
  cases xs with
  | nil => cases h
  | cons x xs => simp [hiI]
theorem loI_succ {xs : List Int} {i : Nat} (h : i < xs.length) : loI xs (i + 1) = min (loI xs i) xs[i] := by
  unfold loI; rw [List.take_succ_eq_append_getElem h, List.foldl_append]; rfl
theorem hiI_succ {xs : List Int} {i : Nat} (h : i < xs.length) : hiI xs (i + 1) = max (hiI xs i) xs[i] := by
  unfold hiI; rw [List.take_succ_eq_append_getElem h, List.foldl_append]; rfl
theorem if_min (a b : Int) : (if b < a then b else a) = min a b := by split <;> omega
theorem if_max (a b : Int) : (if a < b then b else a) = max a b := by split <;> omega
theorem c_slices_Min_int_int (xs : List Int) (h0 : 0 < xs.length) (h : xs.length < 9223372036854775807) : ACall Try.prog 76 [.v (.sl true 1 (ints xs))] [.x] [int (loI xs xs.length)] := by
  have hn : ¬ xs.length < 1 := by omega
  have hn' : ¬ xs.length = 0 := by omega
  have hn2 : ¬ (xs.length : Int) < 1 := by omega
  refine ACall.of (N := 25) tok Try.func76 rfl rfl rfl (by simp) ?_
  repeat' (first | with_reducible refine OutOK.done ?_ | refine thenQ_n ?_ | refine thenQ_r ?_ | refine thenQ_e ?_ | refine AW.seq ?_ | refine AW.reg tok (by simp [*]; rfl) ?_ | refine AW.ifB (by simp [*]; rfl) ?_ | refine IfG.t ?_ | refine IfG.f ?_ | (refine IfG.p (fun hg => ?_) (fun hg => ?_) <;> (try (have hg' := hg; simp at hg'))) | (refine IfG.n (fun hg => ?_) (fun hg => ?_) <;> (try (have hg' := hg; simp at hg'))) | (refine OutOK.gateP (fun hg => ?_) (fun hg => ?_) <;> (try (have hg' := hg; simp at hg'))) | (refine OutOK.gateN (fun hg => ?_) (fun hg => ?_) <;> (try (have hg' := hg; simp at hg'))) | (refine IfG.g (fun hg => ?_) (fun hg => ?_) <;> (try (have hg' := hg; simp at hg'))) | (refine OutOK.gate (fun hg => ?_) (fun hg => ?_) <;> (try (have hg' := hg; simp at hg'))) | refine OutOK.run (by simp [*]; rfl) ?_ | refine AW.ret ?_ | refine AW.skip ?_ | refine AW.exit ?_ | refine fin_r ?_ | refine fin_n ?_ | refine AW.block ?_ | refine blockQ_n ?_ | refine blockQ_r ?_ | refine blockQ_e ?_ | refine blockQ_o rfl ?_)
  refine AW.loopL (fun i => 1 ≤ i ∧ i ≤ xs.length) (fun i => [(0, .c (.sl true 1 (ints xs))), (3, .c (.sc (.int .i64 (loI xs i)))), (4, .c (.sc (.int .i64 (i : Int))))]) (fun _ => []) (fun i => xs.length - i) 1 ⟨by omega, by omega⟩ ⟨by simp [loI_one h0], by simp, by simp⟩ ?_
  rintro i ⟨hi1, hi⟩
  rcases Nat.lt_or_ge i xs.length with hl | hl
  · have e1 : wrap64 ((i : Int) + 1) = (i : Int) + 1 := w64 (by omega) (by omega)
    repeat' (first | with_reducible refine OutOK.done ?_ | refine thenQ_n ?_ | refine thenQ_r ?_ | refine thenQ_e ?_ | refine AW.seq ?_ | refine AW.reg tok (by simp [*]; rfl) ?_ | refine AW.ifB (by simp [*]; rfl) ?_ | refine IfG.t ?_ | refine IfG.f ?_ | (refine IfG.p (fun hg => ?_) (fun hg => ?_) <;> (try (have hg' := hg; simp at hg'))) | (refine IfG.n (fun hg => ?_) (fun hg => ?_) <;> (try (have hg' := hg; simp at hg'))) | (refine OutOK.gateP (fun hg => ?_) (fun hg => ?_) <;> (try (have hg' := hg; simp at hg'))) | (refine OutOK.gateN (fun hg => ?_) (fun hg => ?_) <;> (try (have hg' := hg; simp at hg'))) | (refine IfG.g (fun hg => ?_) (fun hg => ?_) <;> (try (have hg' := hg; simp at hg'))) | (refine OutOK.gate (fun hg => ?_) (fun hg => ?_) <;> (try (have hg' := hg; simp at hg'))) | refine OutOK.run (by simp [*]; rfl) ?_ | refine AW.ret ?_ | refine AW.skip ?_ | refine AW.exit ?_ | refine fin_r ?_ | refine fin_n ?_ | refine AW.block ?_ | refine blockQ_n ?_ | refine blockQ_r ?_ | refine blockQ_e ?_ | refine blockQ_o rfl ?_)
    refine ⟨i + 1, ⟨by omega, by omega⟩, ⟨?_, by simp, by simp⟩, by clear e1; omega⟩
    simp [e1, loI_succ hl, if_min]
  · have hx : i = xs.length := by omega
    subst hx
    repeat' (first | with_reducible refine OutOK.done ?_ | refine thenQ_n ?_ | refine thenQ_r ?_ | refine thenQ_e ?_ | refine AW.seq ?_ | refine AW.reg tok (by simp [*]; rfl) ?_ | refine AW.ifB (by simp [*]; rfl) ?_ | refine IfG.t ?_ | refine IfG.f ?_ | (refine IfG.p (fun hg => ?_) (fun hg => ?_) <;> (try (have hg' := hg; simp at hg'))) | (refine IfG.n (fun hg => ?_) (fun hg => ?_) <;> (try (have hg' := hg; simp at hg'))) | (refine OutOK.gateP (fun hg => ?_) (fun hg => ?_) <;> (try (have hg' := hg; simp at hg'))) | (refine OutOK.gateN (fun hg => ?_) (fun hg => ?_) <;> (try (have hg' := hg; simp at hg'))) | (refine IfG.g (fun hg => ?_) (fun hg => ?_) <;> (try (have hg' := hg; simp at hg'))) | (refine OutOK.gate (fun hg => ?_) (fun hg => ?_) <;> (try (have hg' := hg; simp at hg'))) | refine OutOK.run (by simp [*]; rfl) ?_ | refine AW.ret ?_ | refine AW.skip ?_ | refine AW.exit ?_ | refine fin_r ?_ | refine fin_n ?_ | refine AW.block ?_ | refine blockQ_n ?_ | refine blockQ_r ?_ | refine blockQ_e ?_ | refine blockQ_o rfl ?_)
    all_goals (try simp [*, Try.f76])
theorem c_slices_Max_int_int (xs : List Int) (h0 : 0 < xs.length) (h : xs.length < 9223372036854775807) : ACall Try.prog 77 [.v (.sl true 1 (ints xs))] [.x] [int (hiI xs xs.length)] := by
  have hn : ¬ xs.length < 1 := by omega
  have hn' : ¬ xs.length = 0 := by omega
  have hn2 : ¬ (xs.length : Int) < 1 := by omega
  refine ACall.of (N := 25) tok Try.func77 rfl rfl rfl (by simp) ?_
  repeat' (first | with_reducible refine OutOK.done ?_ | refine thenQ_n ?_ | refine thenQ_r ?_ | refine thenQ_e ?_ | refine AW.seq ?_ | refine AW.reg tok (by simp [*]; rfl) ?_ | refine AW.ifB (by simp [*]; rfl) ?_ | refine IfG.t ?_ | refine IfG.f ?_ | (refine IfG.p (fun hg => ?_) (fun hg => ?_) <;> (try (have hg' := hg; simp at hg'))) | (refine IfG.n (fun hg => ?_) (fun hg => ?_) <;> (try (have hg' := hg; simp at hg'))) | (refine OutOK.gateP (fun hg => ?_) (fun hg => ?_) <;> (try (have hg' := hg; simp at hg'))) | (refine OutOK.gateN (fun hg => ?_) (fun hg => ?_) <;> (try (have hg' := hg; simp at hg'))) | (refine IfG.g (fun hg => ?_) (fun hg => ?_) <;> (try (have hg' := hg; simp at hg'))) | (refine OutOK.gate (fun hg => ?_) (fun hg => ?_) <;> (try (have hg' := hg; simp at hg'))) | refine OutOK.run (by simp [*]; rfl) ?_ | refine AW.ret ?_ | refine AW.skip ?_ | refine AW.exit ?_ | refine fin_r ?_ | refine fin_n ?_ | refine AW.block ?_ | refine blockQ_n ?_ | refine blockQ_r ?_ | refine blockQ_e ?_ | refine blockQ_o rfl ?_)
  refine AW.loopL (fun i => 1 ≤ i ∧ i ≤ xs.length) (fun i => [(0, .c (.sl true 1 (ints xs))), (3, .c (.sc (.int .i64 (hiI xs i)))), (4, .c (.sc (.int .i64 (i : Int))))]) (fun _ => []) (fun i => xs.length - i) 1 ⟨by omega, by omega⟩ ⟨by simp [hiI_one h0], by simp, by simp⟩ ?_
  rintro i ⟨hi1, hi⟩
  rcases Nat.lt_or_ge i xs.length with hl | hl
  · have e1 : wrap64 ((i : Int) + 1) = (i : Int) + 1 := w64 (by omega) (by omega)
    repeat' (first | with_reducible refine OutOK.done ?_ | refine thenQ_n ?_ | refine thenQ_r ?_ | refine thenQ_e ?_ | refine AW.seq ?_ | refine AW.reg tok (by simp [*]; rfl) ?_ | refine AW.ifB (by simp [*]; rfl) ?_ | refine IfG.t ?_ | refine IfG.f ?_ | (refine IfG.p (fun hg => ?_) (fun hg => ?_) <;> (try (have hg' := hg; simp at hg'))) | (refine IfG.n (fun hg => ?_) (fun hg => ?_) <;> (try (have hg' := hg; simp at hg'))) | (refine OutOK.gateP (fun hg => ?_) (fun hg => ?_) <;> (try (have hg' := hg; simp at hg'))) | (refine OutOK.gateN (fun hg => ?_) (fun hg => ?_) <;> (try (have hg' := hg; simp at hg'))) | (refine IfG.g (fun hg => ?_) (fun hg => ?_) <;> (try (have hg' := hg; simp at hg'))) | (refine OutOK.gate (fun hg => ?_) (fun hg => ?_) <;> (try (have hg' := hg; simp at hg'))) | refine OutOK.run (by simp [*]; rfl) ?_ | refine AW.ret ?_ | refine AW.skip ?_ | refine AW.exit ?_ | refine fin_r ?_ | refine fin_n ?_ | refine AW.block ?_ | refine blockQ_n ?_ | refine blockQ_r ?_ | refine blockQ_e ?_ | refine blockQ_o rfl ?_)
    refine ⟨i + 1, ⟨by omega, by omega⟩, ⟨?_, by simp, by simp⟩, by clear e1; omega⟩
    simp [e1, hiI_succ hl, if_max]
  · have hx : i = xs.length := by omega
    subst hx
    repeat' (first | with_reducible refine OutOK.done ?_ | refine thenQ_n ?_ | refine thenQ_r ?_ | refine thenQ_e ?_ | refine AW.seq ?_ | refine AW.reg tok (by simp [*]; rfl) ?_ | refine AW.ifB (by simp [*]; rfl) ?_ | refine IfG.t ?_ | refine IfG.f ?_ | (refine IfG.p (fun hg => ?_) (fun hg => ?_) <;> (try (have hg' := hg; simp at hg'))) | (refine IfG.n (fun hg => ?_) (fun hg => ?_) <;> (try (have hg' := hg; simp at hg'))) | (refine OutOK.gateP (fun hg => ?_) (fun hg => ?_) <;> (try (have hg' := hg; simp at hg'))) | (refine OutOK.gateN (fun hg => ?_) (fun hg => ?_) <;> (try (have hg' := hg; simp at hg'))) | (refine IfG.g (fun hg => ?_) (fun hg => ?_) <;> (try (have hg' := hg; simp at hg'))) | (refine OutOK.gate (fun hg => ?_) (fun hg => ?_) <;> (try (have hg' := hg; simp at hg'))) | refine OutOK.run (by simp [*]; rfl) ?_ | refine AW.ret ?_ | refine AW.skip ?_ | refine AW.exit ?_ | refine fin_r ?_ | refine fin_n ?_ | refine AW.block ?_ | refine blockQ_n ?_ | refine blockQ_r ?_ | refine blockQ_e ?_ | refine blockQ_o rfl ?_)
    all_goals (try simp [*, Try.f77])
def cellH (w : Nat) (cs : List Int) (n : Nat) : List Int := [cs[n]?.getD 0, cs[n + 1]?.getD 0, cs[n + w]?.getD 0, cs[n + w + 1]?.getD 0]
def cellT (w : Nat) (cs : List Int) (level : Int) (n : Nat) : Bool := decide (loI (cellH w cs n) 4 < level) && decide (level ≤ hiI (cellH w cs n) 4)
def cntL (w : Nat) (cs : List Int) (level : Int) (l : List Nat) : List Int := (l.filter (cellT w cs level)).map fun (n : Nat) => (n : Int)
theorem cntL_nil (w cs level) : cntL w cs level [] = [] := rfl
theorem cntL_yes {w cs level l n} (h : cellT w cs level n = true) : cntL w cs level (l ++ [n]) = cntL w cs level l ++ [(n : Int)] := by simp [cntL, h]
theorem cntL_no {w cs level l n} (h : cellT w cs level n = false) : cntL w cs level (l ++ [n]) = cntL w cs level l := by simp [cntL, h]
theorem cntL_len (w cs level) (l : List Nat) : (cntL w cs level l).length ≤ l.length := by simp [cntL]; exact List.length_filter_le _ _
theorem c_impl_ContourCells_1 (w : Nat) (wi di : Int) (cs : List Int) (level : Int) (pre : List Nat) (n n1 m m1 : Nat) (h1 : n1 = n + 1) (h2 : m = n + w) (h3 : m1 = n + w + 1) (l4 : m1 < cs.length) (hp : pre.length ≤ 64) :
    ACall Try.prog 75 [int n, int n1, int m, int m1, .p [.sc (.int .i64 wi), .sc (.int .i64 di), .sl true 1 (ints cs)], .p [.sc (.int .i64 level)], .p [.sl false 1 (ints (cntL w cs level pre))]] [.x, .x, .x, .x, .p [.sc (.int .i64 wi), .sc (.int .i64 di), .sl true 1 (ints cs)], .p [.sc (.int .i64 level)], .p [.sl false 1 (ints (cntL w cs level (pre ++ [n])))]] [] := by
  have l1 : n < cs.length := by omega
  have l2 : n1 < cs.length := by omega
  have l3 : m < cs.length := by omega
  have hE : Hd (n1 = n + 1 ∧ m = n + w ∧ m1 = n + w + 1) := ⟨h1, h2, h3⟩
  have hH : Hd (cellH w cs n = [cs[n], cs[n1], cs[m], cs[m1]]) := by subst h1 h2 h3; simp [Hd, cellH, l1, l2, l3, l4]
  clear h1 h2 h3
  have b1 := cntL_len w cs level pre
  have b2 : (cntL w cs level pre).length ≤ 64 := by omega
  have cMin : ACall Try.prog 76 [.v (.sl true 1 [.sc (.int .i64 cs[n]), .sc (.int .i64 cs[n1]), .sc (.int .i64 cs[m]), .sc (.int .i64 cs[m1])])] [.x] [int (loI (cellH w cs n) 4)] := by
    have := c_slices_Min_int_int (cellH w cs n) (by simp [cellH]) (by simp [cellH])
    rw [hH.out] at this ⊢
    exact this
  have cMax : ACall Try.prog 77 [.v (.sl true 1 [.sc (.int .i64 cs[n]), .sc (.int .i64 cs[n1]), .sc (.int .i64 cs[m]), .sc (.int .i64 cs[m1])])] [.x] [int (hiI (cellH w cs n) 4)] := by
    have := c_slices_Max_int_int (cellH w cs n) (by simp [cellH]) (by simp [cellH])
    rw [hH.out] at this ⊢
    exact this
  have b3 : ((cntL w cs level pre).length : Int) ≤ 64 := by omega
  have b4 : ((cntL w cs level pre).length + 1) * 8 ≤ 140737488355328 := by omega
  have b5 : (cntL w cs level pre).length + 1 ≤ 4611686018427387904 := by omega
  refine ACall.of (N := 47) tok Try.func75 rfl rfl rfl (by simp) ?_
  repeat' (first | with_reducible refine OutOK.done ?_ | refine thenQ_n ?_ | refine thenQ_r ?_ | refine thenQ_e ?_ | refine AW.seq ?_ | refine AW.dreg tok mixed [(0, true), (1, true), (2, true), (3, true), (4, true), (5, true), (6, true), (7, true), (8, true), (9, true), (10, true), (11, true), (12, true), (13, true), (14, true), (15, true), (16, true), (17, true), (18, true), (19, true), (20, true), (21, false)] (by decide +kernel) rfl (by simp [*]; rfl) ?_ | refine AW.dreg tok mixed [(0, true), (2, true), (1, true), (3, true), (4, true), (5, true), (7, true), (6, true), (8, true), (9, true)] (by decide +kernel) rfl (by simp [*]; rfl) ?_ | refine AW.reg tok (by simp [*]; rfl) ?_ | refine AW.ifB (by simp [*]; rfl) ?_ | refine IfG.t ?_ | refine IfG.f ?_ | (refine IfG.p (fun hg => ?_) (fun hg => ?_) <;> (try (have hg' := hg; simp at hg'))) | (refine IfG.n (fun hg => ?_) (fun hg => ?_) <;> (try (have hg' := hg; simp at hg'))) | (refine OutOK.gateP (fun hg => ?_) (fun hg => ?_) <;> (try (have hg' := hg; simp at hg'))) | (refine OutOK.gateN (fun hg => ?_) (fun hg => ?_) <;> (try (have hg' := hg; simp at hg'))) | (refine IfG.g (fun hg => ?_) (fun hg => ?_) <;> (try (have hg' := hg; simp at hg'))) | (refine OutOK.gate (fun hg => ?_) (fun hg => ?_) <;> (try (have hg' := hg; simp at hg'))) | refine OutOK.callF [] (by simp [*]; rfl) (by simp [*]; rfl) (by simp [*]; rfl) hb76 (by apply cMin <;> first | assumption | exact Hd.out (by assumption) | omega) ⟨by simp [*], by simp [*], by simp [*], by simp [*], by simp [*]⟩ (by simp [*]) (by simp [*]; rfl) ?_ | refine OutOK.callF [] (by simp [*]; rfl) (by simp [*]; rfl) (by simp [*]; rfl) hb77 (by apply cMax <;> first | assumption | exact Hd.out (by assumption) | omega) ⟨by simp [*], by simp [*], by simp [*], by simp [*], by simp [*]⟩ (by simp [*]) (by simp [*]; rfl) ?_ | refine OutOK.run (by simp [*]; rfl) ?_ | refine AW.ret ?_ | refine AW.skip ?_ | refine AW.exit ?_ | refine fin_r ?_ | refine fin_n ?_ | refine AW.block ?_ | refine blockQ_n ?_ | refine blockQ_r ?_ | refine blockQ_e ?_ | refine blockQ_o rfl ?_)
  · have hT : cellT w cs level n = true := by simp [cellT, *]
    simp [Try.f75, cntL_yes hT]
  · have hT : cellT w cs level n = false := by simp [cellT, *]
    simp [Try.f75, cntL_no hT]
  · have hT : cellT w cs level n = false := by simp [cellT, *]
    simp [Try.f75, cntL_no hT]
theorem cellC_len (w y : Nat) : (cellC w y).length = y * (w - 1) := by
  induction y with
  | zero => simp [cellC]
  | succ y ih => rw [cellC_succ, List.length_append, ih, Nat.add_mul]; simp [rowC]
theorem cell_len {w d y x : Nat} (hw : w ≤ 8) (hd : d ≤ 8) (hy : y ≤ d) (hx : x + 1 < w) : (cellC w y ++ rowC w y x).length ≤ 64 := by
  rw [List.length_append, cellC_len]
  have : y * (w - 1) ≤ 8 * 7 := Nat.mul_le_mul (by omega) (by omega)
  simp [rowC]
  omega
theorem c_impl_Surface_cells3 (w d : Nat) (cs : List Int) (f : Nat) (C1 C2 C3 : List Nat → List PV) (h1 : 2 ≤ w) (h2 : w ≤ 8) (h3 : 2 ≤ d) (h4 : d ≤ 8) (h : cs.length = w * d) (hbf : HasBody Try.prog f)
    (cf : ∀ (pre : List Nat) (n n1 m m1 : Nat), n1 = n + 1 → m = n + w → m1 = n + w + 1 → m1 < cs.length → pre.length ≤ 64 → ACall Try.prog f [int n, int n1, int m, int m1, .p (C1 pre), .p (C2 pre), .p (C3 pre)] [.x, .x, .x, .x, .p (C1 (pre ++ [n])), .p (C2 (pre ++ [n])), .p (C3 (pre ++ [n]))] []) :
    ACall Try.prog 74 [surf w d cs, .f f [C1 [], C2 [], C3 []]] [.x, .f f [C1 (cellC w (d - 1)), C2 (cellC w (d - 1)), C3 (cellC w (d - 1))]] [] := by
  have e8 : wrap64 ((w : Int) - 1) = ((w - 1 : Nat) : Int) := by rw [w64 (by omega) (by omega)]; omega
  have e9 : wrap64 ((d : Int) - 1) = ((d - 1 : Nat) : Int) := by rw [w64 (by omega) (by omega)]; omega
  have hW : Hd (w - 1 + 1 = w) := Hd.mk (by omega)
  have hD : Hd (d - 1 + 1 = d) := Hd.mk (by omega)
  generalize w - 1 = w1 at *
  generalize d - 1 = d1 at *
  refine ACall.of (N := 41) tok Try.func74 rfl rfl rfl (by simp) ?_
  repeat' (first | with_reducible refine OutOK.done ?_ | refine thenQ_n ?_ | refine thenQ_r ?_ | refine thenQ_e ?_ | refine AW.seq ?_ | refine AW.reg tok (by simp [*]; rfl) ?_ | refine AW.ifB (by simp [*]; rfl) ?_ | refine IfG.t ?_ | refine IfG.f ?_ | (refine IfG.p (fun hg => ?_) (fun hg => ?_) <;> (try (have hg' := hg; simp at hg'))) | (refine IfG.n (fun hg => ?_) (fun hg => ?_) <;> (try (have hg' := hg; simp at hg'))) | (refine OutOK.gateP (fun hg => ?_) (fun hg => ?_) <;> (try (have hg' := hg; simp at hg'))) | (refine OutOK.gateN (fun hg => ?_) (fun hg => ?_) <;> (try (have hg' := hg; simp at hg'))) | (refine IfG.g (fun hg => ?_) (fun hg => ?_) <;> (try (have hg' := hg; simp at hg'))) | (refine OutOK.gate (fun hg => ?_) (fun hg => ?_) <;> (try (have hg' := hg; simp at hg'))) | refine OutOK.run (by simp [*]; rfl) ?_ | refine AW.ret ?_ | refine AW.skip ?_ | refine AW.exit ?_ | refine fin_r ?_ | refine fin_n ?_ | refine AW.block ?_ | refine blockQ_n ?_ | refine blockQ_r ?_ | refine blockQ_e ?_ | refine blockQ_o rfl ?_)
  refine AW.loopL (fun y => y ≤ d1) (fun y => [(1, .fn f [.pt 100000051 [] 0, .pt 100000052 [] 0, .pt 100000053 [] 0]), (2, .pt 2000 [] 0), (9, .c (.sc (.int .i64 (d1 : Int)))), (10, .c (.sc (.int .i64 (y : Int))))])
    (fun y => [(2000, .bx [.sc (.int .i64 w), .sc (.int .i64 d), .sl true 1 (ints cs)]), (100000051, .bx (C1 (cellC w y))), (100000052, .bx (C2 (cellC w y))), (100000053, .bx (C3 (cellC w y)))]) (fun y => d1 - y) 0 (by omega) ⟨by simp [*], by simp [cellC], by simp⟩ ?_
  intro y hy
  rcases Nat.lt_or_ge y d1 with hy1 | hy1
  · have hyd : y + 1 < d := by have := hD.out; clear e8 e9; omega
    have e1 : wrap64 ((y : Int) + 1) = (y : Int) + 1 := w64 (by clear e8 e9; omega) (by clear e8 e9; omega)
    repeat' (first | with_reducible refine OutOK.done ?_ | refine thenQ_n ?_ | refine thenQ_r ?_ | refine thenQ_e ?_ | refine AW.seq ?_ | refine AW.reg tok (by simp [*]; rfl) ?_ | refine AW.ifB (by simp [*]; rfl) ?_ | refine IfG.t ?_ | refine IfG.f ?_ | (refine IfG.p (fun hg => ?_) (fun hg => ?_) <;> (try (have hg' := hg; simp at hg'))) | (refine IfG.n (fun hg => ?_) (fun hg => ?_) <;> (try (have hg' := hg; simp at hg'))) | (refine OutOK.gateP (fun hg => ?_) (fun hg => ?_) <;> (try (have hg' := hg; simp at hg'))) | (refine OutOK.gateN (fun hg => ?_) (fun hg => ?_) <;> (try (have hg' := hg; simp at hg'))) | (refine IfG.g (fun hg => ?_) (fun hg => ?_) <;> (try (have hg' := hg; simp at hg'))) | (refine OutOK.gate (fun hg => ?_) (fun hg => ?_) <;> (try (have hg' := hg; simp at hg'))) | refine OutOK.run (by simp [*]; rfl) ?_ | refine AW.ret ?_ | refine AW.skip ?_ | refine AW.exit ?_ | refine fin_r ?_ | refine fin_n ?_ | refine AW.block ?_ | refine blockQ_n ?_ | refine blockQ_r ?_ | refine blockQ_e ?_ | refine blockQ_o rfl ?_)
    refine AW.loopL (fun x => x ≤ w1) (fun x => [(1, .fn f [.pt 100000051 [] 0, .pt 100000052 [] 0, .pt 100000053 [] 0]), (2, .pt 2000 [] 0), (4, .c (.sc (.int .i64 (y : Int)))), (9, .c (.sc (.int .i64 (d1 : Int)))), (10, .c (.sc (.int .i64 (y : Int)))), (15, .c (.sc (.int .i64 (w1 : Int)))), (16, .c (.sc (.int .i64 (x : Int))))])
      (fun x => [(2000, .bx [.sc (.int .i64 w), .sc (.int .i64 d), .sl true 1 (ints cs)]), (100000051, .bx (C1 (cellC w y ++ rowC w y x))), (100000052, .bx (C2 (cellC w y ++ rowC w y x))), (100000053, .bx (C3 (cellC w y ++ rowC w y x)))]) (fun x => w1 - x) 0 (by omega) ⟨by simp [*], by simp [rowC], by simp⟩ ?_
    intro x hx
    rcases Nat.lt_or_ge x w1 with hx1 | hx1
    · have hxw : x + 1 < w := by have := hW.out; clear e8 e9 e1; omega
      have e2 : wrap64 ((x : Int) + 1) = (x : Int) + 1 := w64 (by clear e1 e8 e9; omega) (by clear e1 e8 e9; omega)
      obtain ⟨n, n1, m, m1, hE, g1, g2, g3, g4, l1, l2, l3, l4⟩ := cell_facts h2 h4 hxw hyd h
      have cf' := cf (cellC w y ++ rowC w y x) n n1 m m1 hE.e2 hE.e3 hE.e4 l4 (cell_len h2 h4 (by clear e1 e2 e8 e9 g1 g2 g3 g4; omega) hxw)
      clear h hx hy cf
      repeat' (first | with_reducible refine OutOK.done ?_ | refine thenQ_n ?_ | refine thenQ_r ?_ | refine thenQ_e ?_ | refine AW.seq ?_ | refine AW.reg tok (by simp [*]; rfl) ?_ | refine AW.ifB (by simp [*]; rfl) ?_ | refine IfG.t ?_ | refine IfG.f ?_ | (refine IfG.p (fun hg => ?_) (fun hg => ?_) <;> (try (have hg' := hg; simp at hg'))) | (refine IfG.n (fun hg => ?_) (fun hg => ?_) <;> (try (have hg' := hg; simp at hg'))) | (refine OutOK.gateP (fun hg => ?_) (fun hg => ?_) <;> (try (have hg' := hg; simp at hg'))) | (refine OutOK.gateN (fun hg => ?_) (fun hg => ?_) <;> (try (have hg' := hg; simp at hg'))) | (refine IfG.g (fun hg => ?_) (fun hg => ?_) <;> (try (have hg' := hg; simp at hg'))) | (refine OutOK.gate (fun hg => ?_) (fun hg => ?_) <;> (try (have hg' := hg; simp at hg'))) | refine OutOK.callF [] (by simp [*]; rfl) (by simp [*]; rfl) (by simp [*]; rfl) hbf (by apply cf' <;> first | assumption | exact Hd.out (by assumption) | omega) ⟨by simp [*], by simp [*], by simp [*], by simp [*], by simp [*]⟩ (by simp [*]) (by simp [*]; rfl) ?_ | refine OutOK.run (by simp [*]; rfl) ?_ | refine AW.ret ?_ | refine AW.skip ?_ | refine AW.exit ?_ | refine fin_r ?_ | refine fin_n ?_ | refine AW.block ?_ | refine blockQ_n ?_ | refine blockQ_r ?_ | refine blockQ_e ?_ | refine blockQ_o rfl ?_)
      have hn := hE.e1
      refine ⟨x + 1, by omega, ⟨?_, ?_, by simp⟩, by clear e1 e2 e8 e9 g1 g2 g3 g4; omega⟩
      · simp [e2]
      · simp [rowC_succ, hn]
    · have hxw : x = w1 := by clear e1 e8 e9; omega
      have hcx : ¬ (x : Int) < w1 := by clear e1 e8 e9; omega
      have hw : w - 1 = w1 := by have := hW.out; clear e8 e9 e1; omega
      clear h hx cf
      rw [hxw]
      repeat' (first | with_reducible refine OutOK.done ?_ | refine thenQ_n ?_ | refine thenQ_r ?_ | refine thenQ_e ?_ | refine AW.seq ?_ | refine AW.reg tok (by simp [*]; rfl) ?_ | refine AW.ifB (by simp [*]; rfl) ?_ | refine IfG.t ?_ | refine IfG.f ?_ | (refine IfG.p (fun hg => ?_) (fun hg => ?_) <;> (try (have hg' := hg; simp at hg'))) | (refine IfG.n (fun hg => ?_) (fun hg => ?_) <;> (try (have hg' := hg; simp at hg'))) | (refine OutOK.gateP (fun hg => ?_) (fun hg => ?_) <;> (try (have hg' := hg; simp at hg'))) | (refine OutOK.gateN (fun hg => ?_) (fun hg => ?_) <;> (try (have hg' := hg; simp at hg'))) | (refine IfG.g (fun hg => ?_) (fun hg => ?_) <;> (try (have hg' := hg; simp at hg'))) | (refine OutOK.gate (fun hg => ?_) (fun hg => ?_) <;> (try (have hg' := hg; simp at hg'))) | refine OutOK.run (by simp [*]; rfl) ?_ | refine AW.ret ?_ | refine AW.skip ?_ | refine AW.exit ?_ | refine fin_r ?_ | refine fin_n ?_ | refine AW.block ?_ | refine blockQ_n ?_ | refine blockQ_r ?_ | refine blockQ_e ?_ | refine blockQ_o rfl ?_)
      refine ⟨y + 1, by clear e1 e8 e9; omega, ⟨?_, ?_, by simp⟩, by clear e1 e8 e9; omega⟩
      · simp [e1]
      · simp [cellC_succ, hw]
  · have hyd : y = d1 := by clear e8 e9; omega
    rw [hyd]
    clear h cf
    repeat' (first | with_reducible refine OutOK.done ?_ | refine thenQ_n ?_ | refine thenQ_r ?_ | refine thenQ_e ?_ | refine AW.seq ?_ | refine AW.reg tok (by simp [*]; rfl) ?_ | refine AW.ifB (by simp [*]; rfl) ?_ | refine IfG.t ?_ | refine IfG.f ?_ | (refine IfG.p (fun hg => ?_) (fun hg => ?_) <;> (try (have hg' := hg; simp at hg'))) | (refine IfG.n (fun hg => ?_) (fun hg => ?_) <;> (try (have hg' := hg; simp at hg'))) | (refine OutOK.gateP (fun hg => ?_) (fun hg => ?_) <;> (try (have hg' := hg; simp at hg'))) | (refine OutOK.gateN (fun hg => ?_) (fun hg => ?_) <;> (try (have hg' := hg; simp at hg'))) | (refine IfG.g (fun hg => ?_) (fun hg => ?_) <;> (try (have hg' := hg; simp at hg'))) | (refine OutOK.gate (fun hg => ?_) (fun hg => ?_) <;> (try (have hg' := hg; simp at hg'))) | refine OutOK.run (by simp [*]; rfl) ?_ | refine AW.ret ?_ | refine AW.skip ?_ | refine AW.exit ?_ | refine fin_r ?_ | refine fin_n ?_ | refine AW.block ?_ | refine blockQ_n ?_ | refine blockQ_r ?_ | refine blockQ_e ?_ | refine blockQ_o rfl ?_)
    simp [Try.f74]
end Go.Proofs.Ytgojidjfidldbaa.EngS


set_option linter.unusedSimpArgs false
set_option linter.unusedVariables false
set_option maxHeartbeats 4000000
namespace Go.Proofs.Ytgojidjfidldbaa.EngS
open Go Go.Proofs Go.Eng Go.RowKit
def contL (w d : Int) (cs : List Int) (level : Int) : List Int := if good w d cs = true then cntL w.toNat cs level (cellC w.toNat (d.toNat - 1)) else []
theorem c_impl_ContourCells (w d : Int) (cs : List Int) (level : Int) (h : cs.length < 9223372036854775807) : ACall Try.prog 39 [surf w d cs, int level] [.x, .x] [.v (.sl false 1 (ints (contL w d cs level))), boo (good w d cs)] := by
  cases hgd : good w d cs with
  | false =>
    refine ACall.of (N := 15) tok Try.func39 rfl rfl rfl (by simp) ?_
    repeat' (first | with_reducible refine OutOK.done ?_ | refine thenQ_n ?_ | refine thenQ_r ?_ | refine thenQ_e ?_ | refine AW.seq ?_ | refine AW.reg tok (by simp [*]; rfl) ?_ | refine AW.ifB (by simp [*]; rfl) ?_ | refine IfG.t ?_ | refine IfG.f ?_ | (refine IfG.p (fun hg => ?_) (fun hg => ?_) <;> (try (have hg' := hg; simp at hg'))) | (refine IfG.n (fun hg => ?_) (fun hg => ?_) <;> (try (have hg' := hg; simp at hg'))) | (refine OutOK.gateP (fun hg => ?_) (fun hg => ?_) <;> (try (have hg' := hg; simp at hg'))) | (refine OutOK.gateN (fun hg => ?_) (fun hg => ?_) <;> (try (have hg' := hg; simp at hg'))) | (refine IfG.g (fun hg => ?_) (fun hg => ?_) <;> (try (have hg' := hg; simp at hg'))) | (refine OutOK.gate (fun hg => ?_) (fun hg => ?_) <;> (try (have hg' := hg; simp at hg'))) | refine OutOK.callF [] (by simp [*]; rfl) (by simp [*]; rfl) (by simp [*]; rfl) hb18 (by apply c_impl_IsValidSurface <;> first | assumption | exact Hd.out (by assumption) | omega) ⟨by simp [*], by simp [*], by simp [*], by simp [*], by simp [*]⟩ (by simp [*]) (by simp [*]; rfl) ?_ | refine OutOK.callF [] (by simp [*]; rfl) (by simp [*]; rfl) (by simp [*]; rfl) hb74 (by apply c_impl_Surface_cells <;> first | assumption | exact Hd.out (by assumption) | omega) ⟨by simp [*], by simp [*], by simp [*], by simp [*], by simp [*]⟩ (by simp [*]) (by simp [*]; rfl) ?_ | refine OutOK.run (by simp [*]; rfl) ?_ | refine AW.ret ?_ | refine AW.skip ?_ | refine AW.exit ?_ | refine fin_r ?_ | refine fin_n ?_ | refine AW.block ?_ | refine blockQ_n ?_ | refine blockQ_r ?_ | refine blockQ_e ?_ | refine blockQ_o rfl ?_)
    simp [contL, hgd, Try.f39]
  | true =>
    obtain ⟨W, D, rfl, rfl, k1, k2, k3, k4, k5, k6⟩ := good_nat hgd
    have c0 := c_impl_Surface_cells3 W D cs 75 (fun _ => [.sc (.int .i64 W), .sc (.int .i64 D), .sl true 1 (ints cs)]) (fun _ => [.sc (.int .i64 level)]) (fun pre => [.sl false 1 (ints (cntL W cs level pre))]) k1 k2 k3 k4 k5 hb75
      (fun pre n n1 m m1 e1 e2 e3 e4 e5 => c_impl_ContourCells_1 W W D cs level pre n n1 m m1 e1 e2 e3 e4 e5)
    simp only [cntL_nil, ints_nil] at c0
    clear k5 k6
    refine ACall.of (N := 15) tok Try.func39 rfl rfl rfl (by simp) ?_
    repeat' (first | with_reducible refine OutOK.done ?_ | refine thenQ_n ?_ | refine thenQ_r ?_ | refine thenQ_e ?_ | refine AW.seq ?_ | refine AW.reg tok (by simp [*]; rfl) ?_ | refine AW.ifB (by simp [*]; rfl) ?_ | refine IfG.t ?_ | refine IfG.f ?_ | (refine IfG.p (fun hg => ?_) (fun hg => ?_) <;> (try (have hg' := hg; simp at hg'))) | (refine IfG.n (fun hg => ?_) (fun hg => ?_) <;> (try (have hg' := hg; simp at hg'))) | (refine OutOK.gateP (fun hg => ?_) (fun hg => ?_) <;> (try (have hg' := hg; simp at hg'))) | (refine OutOK.gateN (fun hg => ?_) (fun hg => ?_) <;> (try (have hg' := hg; simp at hg'))) | (refine IfG.g (fun hg => ?_) (fun hg => ?_) <;> (try (have hg' := hg; simp at hg'))) | (refine OutOK.gate (fun hg => ?_) (fun hg => ?_) <;> (try (have hg' := hg; simp at hg'))) | refine OutOK.callF [] (by simp [*]; rfl) (by simp [*]; rfl) (by simp [*]; rfl) hb18 (by apply c_impl_IsValidSurface <;> first | assumption | exact Hd.out (by assumption) | omega) ⟨by simp [*], by simp [*], by simp [*], by simp [*], by simp [*]⟩ (by simp [*]) (by simp [*]; rfl) ?_ | refine OutOK.callF [] (by simp [*]; rfl) (by simp [*]; rfl) (by simp [*]; rfl) hb74 (by apply c0 <;> first | assumption | exact Hd.out (by assumption) | omega) ⟨by simp [*], by simp [*], by simp [*], by simp [*], by simp [*]⟩ (by simp [*]) (by simp [*]; rfl) ?_ | refine OutOK.run (by simp [*]; rfl) ?_ | refine AW.ret ?_ | refine AW.skip ?_ | refine AW.exit ?_ | refine fin_r ?_ | refine fin_n ?_ | refine AW.block ?_ | refine blockQ_n ?_ | refine blockQ_r ?_ | refine blockQ_e ?_ | refine blockQ_o rfl ?_)
    simp [contL, hgd, Try.f39]
theorem contL_len (w d : Int) (cs : List Int) (level : Int) : (contL w d cs level).length ≤ 64 := by
  unfold contL
  split
  · rename_i hg
    obtain ⟨W, D, rfl, rfl, k1, k2, k3, k4, k5, k6⟩ := good_nat hg
    refine Nat.le_trans (cntL_len _ _ _ _) ?_
    rw [cellC_len]
    have : (D - 1) * (W - 1) ≤ 7 * 7 := Nat.mul_le_mul (by omega) (by omega)
    simp
    omega
  · simp
@[simp] theorem cellH_len (w cs n) : (cellH w cs n).length = 4 := rfl
theorem c_spec_ContourCells (w d : Int) (cs : List Int) (level : Int) (h : cs.length < 9223372036854775807) : ACall Try.prog 38 [surf w d cs, int level] [.x, .x] [.v (.sl false 1 (ints (contL w d cs level))), boo (good w d cs)] := by
  cases hgd : good w d cs with
  | false =>
    refine ACall.of (N := 103) tok Try.func38 rfl rfl rfl (by simp) ?_
    repeat' (first | with_reducible refine OutOK.done ?_ | refine thenQ_n ?_ | refine thenQ_r ?_ | refine thenQ_e ?_ | refine AW.seq ?_ | refine AW.dreg tok mixed [(0, true), (1, true), (2, true), (3, true), (4, true), (5, true), (6, true), (7, true), (8, true), (9, true), (10, true), (11, true), (12, true), (13, true), (14, true), (15, true), (16, true), (17, true), (18, true), (19, true), (20, true), (21, true), (22, true), (23, true), (24, true), (25, true), (26, true), (27, true), (28, true), (29, false)] (by decide +kernel) rfl (by simp [*]; rfl) ?_ | refine AW.dreg tok mixed [(0, true), (1, true), (2, true), (3, true), (4, true), (5, true), (6, true), (7, false)] (by decide +kernel) rfl (by simp [*]; rfl) ?_ | refine AW.reg tok (by simp [*]; rfl) ?_ | refine AW.ifB (by simp [*]; rfl) ?_ | refine IfG.t ?_ | refine IfG.f ?_ | (refine IfG.p (fun hg => ?_) (fun hg => ?_) <;> (try (have hg' := hg; simp at hg'))) | (refine IfG.n (fun hg => ?_) (fun hg => ?_) <;> (try (have hg' := hg; simp at hg'))) | (refine OutOK.gateP (fun hg => ?_) (fun hg => ?_) <;> (try (have hg' := hg; simp at hg'))) | (refine OutOK.gateN (fun hg => ?_) (fun hg => ?_) <;> (try (have hg' := hg; simp at hg'))) | (refine IfG.g (fun hg => ?_) (fun hg => ?_) <;> (try (have hg' := hg; simp at hg'))) | (refine OutOK.gate (fun hg => ?_) (fun hg => ?_) <;> (try (have hg' := hg; simp at hg'))) | refine OutOK.callF [] (by simp [*]; rfl) (by simp [*]; rfl) (by simp [*]; rfl) hb54 (by apply c_spec_l19Good <;> first | assumption | exact Hd.out (by assumption) | omega) ⟨by simp [*], by simp [*], by simp [*], by simp [*], by simp [*]⟩ (by simp [*]) (by simp [*]; rfl) ?_ | refine OutOK.callF [] (by simp [*]; rfl) (by simp [*]; rfl) (by simp [*]; rfl) hb66 (by apply c_spec_l1Most <;> first | assumption | exact Hd.out (by assumption) | omega) ⟨by simp [*], by simp [*], by simp [*], by simp [*], by simp [*]⟩ (by simp [*]) (by simp [*]; rfl) ?_ | refine OutOK.callF [] (by simp [*]; rfl) (by simp [*]; rfl) (by simp [*]; rfl) hb71 (by apply c_spec_l1Least <;> first | assumption | exact Hd.out (by assumption) | omega) ⟨by simp [*], by simp [*], by simp [*], by simp [*], by simp [*]⟩ (by simp [*]) (by simp [*]; rfl) ?_ | refine OutOK.run (by simp [*]; rfl) ?_ | refine AW.ret ?_ | refine AW.skip ?_ | refine AW.exit ?_ | refine fin_r ?_ | refine fin_n ?_ | refine AW.block ?_ | refine blockQ_n ?_ | refine blockQ_r ?_ | refine blockQ_e ?_ | refine blockQ_o rfl ?_)
    simp [contL, hgd, Try.f38]
  | true =>
    obtain ⟨w, d, rfl, rfl, h1, h2, h3, h4, h, k6⟩ := good_nat hgd
    clear k6
    have hL : contL (w : Int) (d : Int) cs level = cntL w cs level (cellC w (d - 1)) := by simp [contL, hgd]
    refine ACall.of (N := 103) tok Try.func38 rfl rfl rfl (by simp) ?_
    repeat' (first | with_reducible refine OutOK.done ?_ | refine thenQ_n ?_ | refine thenQ_r ?_ | refine thenQ_e ?_ | refine AW.seq ?_ | refine AW.dreg tok mixed [(0, true), (1, true), (2, true), (3, true), (4, true), (5, true), (6, true), (7, true), (8, true), (9, true), (10, true), (11, true), (12, true), (13, true), (14, true), (15, true), (16, true), (17, true), (18, true), (19, true), (20, true), (21, true), (22, true), (23, true), (24, true), (25, true), (26, true), (27, true), (28, true), (29, false)] (by decide +kernel) rfl (by simp [*]; rfl) ?_ | refine AW.dreg tok mixed [(0, true), (1, true), (2, true), (3, true), (4, true), (5, true), (6, true), (7, false)] (by decide +kernel) rfl (by simp [*]; rfl) ?_ | refine AW.reg tok (by simp [*]; rfl) ?_ | refine AW.ifB (by simp [*]; rfl) ?_ | refine IfG.t ?_ | refine IfG.f ?_ | (refine IfG.p (fun hg => ?_) (fun hg => ?_) <;> (try (have hg' := hg; simp at hg'))) | (refine IfG.n (fun hg => ?_) (fun hg => ?_) <;> (try (have hg' := hg; simp at hg'))) | (refine OutOK.gateP (fun hg => ?_) (fun hg => ?_) <;> (try (have hg' := hg; simp at hg'))) | (refine OutOK.gateN (fun hg => ?_) (fun hg => ?_) <;> (try (have hg' := hg; simp at hg'))) | (refine IfG.g (fun hg => ?_) (fun hg => ?_) <;> (try (have hg' := hg; simp at hg'))) | (refine OutOK.gate (fun hg => ?_) (fun hg => ?_) <;> (try (have hg' := hg; simp at hg'))) | refine OutOK.callF [] (by simp [*]; rfl) (by simp [*]; rfl) (by simp [*]; rfl) hb54 (by apply c_spec_l19Good <;> first | assumption | exact Hd.out (by assumption) | omega) ⟨by simp [*], by simp [*], by simp [*], by simp [*], by simp [*]⟩ (by simp [*]) (by simp [*]; rfl) ?_ | refine OutOK.callF [] (by simp [*]; rfl) (by simp [*]; rfl) (by simp [*]; rfl) hb66 (by apply c_spec_l1Most <;> first | assumption | exact Hd.out (by assumption) | omega) ⟨by simp [*], by simp [*], by simp [*], by simp [*], by simp [*]⟩ (by simp [*]) (by simp [*]; rfl) ?_ | refine OutOK.callF [] (by simp [*]; rfl) (by simp [*]; rfl) (by simp [*]; rfl) hb71 (by apply c_spec_l1Least <;> first | assumption | exact Hd.out (by assumption) | omega) ⟨by simp [*], by simp [*], by simp [*], by simp [*], by simp [*]⟩ (by simp [*]) (by simp [*]; rfl) ?_ | refine OutOK.run (by simp [*]; rfl) ?_ | refine AW.ret ?_ | refine AW.skip ?_ | refine AW.exit ?_ | refine fin_r ?_ | refine fin_n ?_ | refine AW.block ?_ | refine blockQ_n ?_ | refine blockQ_r ?_ | refine blockQ_e ?_ | refine blockQ_o rfl ?_)
    refine AW.loopS (fun y => y + 1 ≤ d) (fun y => [(1, .c (.sc (.int .i64 level))), (2, .pt 2000 [] 0), (6, .rf 101000 []), (7, .c (.sc (.int .i64 (y : Int))))]) (fun y => [(2000, .bx [.sc (.int .i64 w), .sc (.int .i64 d), .sl true 1 (ints cs)]), (101000, .sv (.sl false 1 (ints (cntL w cs level (cellC w y)))))]) (fun y => d - y) 0 (by omega) [(14000, 101000)] (by simp) ⟨by simp, by simp [cellC, cntL_nil], by simp⟩ ?_
    intro y hy
    rcases Nat.lt_or_ge (y + 1) d with hy1 | hy1
    · have hc : (y : Int) + 1 < d := by omega
      have e1 : wrap64 ((y : Int) + 1) = (y : Int) + 1 := w64 (by omega) (by omega)
      repeat' (first | with_reducible refine OutOK.done ?_ | refine thenQ_n ?_ | refine thenQ_r ?_ | refine thenQ_e ?_ | refine AW.seq ?_ | refine AW.dreg tok mixed [(0, true), (1, true), (2, true), (3, true), (4, true), (5, true), (6, true), (7, true), (8, true), (9, true), (10, true), (11, true), (12, true), (13, true), (14, true), (15, true), (16, true), (17, true), (18, true), (19, true), (20, true), (21, true), (22, true), (23, true), (24, true), (25, true), (26, true), (27, true), (28, true), (29, false)] (by decide +kernel) rfl (by simp [*]; rfl) ?_ | refine AW.dreg tok mixed [(0, true), (1, true), (2, true), (3, true), (4, true), (5, true), (6, true), (7, false)] (by decide +kernel) rfl (by simp [*]; rfl) ?_ | refine AW.reg tok (by simp [*]; rfl) ?_ | refine AW.ifB (by simp [*]; rfl) ?_ | refine IfG.t ?_ | refine IfG.f ?_ | (refine IfG.p (fun hg => ?_) (fun hg => ?_) <;> (try (have hg' := hg; simp at hg'))) | (refine IfG.n (fun hg => ?_) (fun hg => ?_) <;> (try (have hg' := hg; simp at hg'))) | (refine OutOK.gateP (fun hg => ?_) (fun hg => ?_) <;> (try (have hg' := hg; simp at hg'))) | (refine OutOK.gateN (fun hg => ?_) (fun hg => ?_) <;> (try (have hg' := hg; simp at hg'))) | (refine IfG.g (fun hg => ?_) (fun hg => ?_) <;> (try (have hg' := hg; simp at hg'))) | (refine OutOK.gate (fun hg => ?_) (fun hg => ?_) <;> (try (have hg' := hg; simp at hg'))) | refine OutOK.callF [] (by simp [*]; rfl) (by simp [*]; rfl) (by simp [*]; rfl) hb54 (by apply c_spec_l19Good <;> first | assumption | exact Hd.out (by assumption) | omega) ⟨by simp [*], by simp [*], by simp [*], by simp [*], by simp [*]⟩ (by simp [*]) (by simp [*]; rfl) ?_ | refine OutOK.callF [] (by simp [*]; rfl) (by simp [*]; rfl) (by simp [*]; rfl) hb66 (by apply c_spec_l1Most <;> first | assumption | exact Hd.out (by assumption) | omega) ⟨by simp [*], by simp [*], by simp [*], by simp [*], by simp [*]⟩ (by simp [*]) (by simp [*]; rfl) ?_ | refine OutOK.callF [] (by simp [*]; rfl) (by simp [*]; rfl) (by simp [*]; rfl) hb71 (by apply c_spec_l1Least <;> first | assumption | exact Hd.out (by assumption) | omega) ⟨by simp [*], by simp [*], by simp [*], by simp [*], by simp [*]⟩ (by simp [*]) (by simp [*]; rfl) ?_ | refine OutOK.run (by simp [*]; rfl) ?_ | refine AW.ret ?_ | refine AW.skip ?_ | refine AW.exit ?_ | refine fin_r ?_ | refine fin_n ?_ | refine AW.block ?_ | refine blockQ_n ?_ | refine blockQ_r ?_ | refine blockQ_e ?_ | refine blockQ_o rfl ?_)
      refine AW.loopS (fun x => x + 1 ≤ w) (fun x => [(1, .c (.sc (.int .i64 level))), (2, .pt 2000 [] 0), (6, .rf 101000 []), (7, .c (.sc (.int .i64 (y : Int)))), (8, .c (.sc (.int .i64 (x : Int))))]) (fun x => [(2000, .bx [.sc (.int .i64 w), .sc (.int .i64 d), .sl true 1 (ints cs)]), (101000, .sv (.sl false 1 (ints (cntL w cs level (cellC w y ++ rowC w y x)))))]) (fun x => w - x) 0 (by omega) [] (by simp) ⟨by simp, by simp [rowC], by simp⟩ ?_
      intro x hx
      have e2 : wrap64 ((x : Int) + 1) = (x : Int) + 1 := w64 (by clear e1; omega) (by clear e1; omega)
      rcases Nat.lt_or_ge (x + 1) w with hx1 | hx1
      · have hpl := cell_len (y := y) h2 h4 (by clear e1 e2; omega) hx1
        have hpl2 := cntL_len w cs level (cellC w y ++ rowC w y x)
        have b4 : ((cntL w cs level (cellC w y ++ rowC w y x)).length + 1) * 8 ≤ 140737488355328 := by clear e1 e2; omega
        have b5 : (cntL w cs level (cellC w y ++ rowC w y x)).length + 1 ≤ 4611686018427387904 := by clear e1 e2; omega
        obtain ⟨n, n1, m, m1, hE, g1, g2, g3, g4, l1, l2, l3, l4⟩ := cell_facts h2 h4 hx1 hy1 h
        have hH : Hd (cellH w cs n = [cs[n], cs[n1], cs[m], cs[m1]]) := by obtain ⟨q1, q2, q3, q4⟩ := hE; subst q2 q3 q4; simp [Hd, cellH, l1, l2, l3, l4]
        have hP : Hd (cellC w y ++ rowC w y (x + 1) = (cellC w y ++ rowC w y x) ++ [n]) := Hd.mk (by rw [rowC_succ, hE.e1, List.append_assoc])
        have hcx : (x : Int) + 1 < w := by clear e1 e2 g1 g2 g3 g4; omega
        clear h hx hy hpl hpl2
        generalize cellC w y ++ rowC w y x = pre at *
        repeat' (first | with_reducible refine OutOK.done ?_ | refine thenQ_n ?_ | refine thenQ_r ?_ | refine thenQ_e ?_ | refine AW.seq ?_ | refine AW.dreg tok mixed [(0, true), (1, true), (2, true), (3, true), (4, true), (5, true), (6, true), (7, true), (8, true), (9, true), (10, true), (11, true), (12, true), (13, true), (14, true), (15, true), (16, true), (17, true), (18, true), (19, true), (20, true), (21, true), (22, true), (23, true), (24, true), (25, true), (26, true), (27, true), (28, true), (29, false)] (by decide +kernel) rfl (by simp [*]; rfl) ?_ | refine AW.dreg tok mixed [(0, true), (1, true), (2, true), (3, true), (4, true), (5, true), (6, true), (7, false)] (by decide +kernel) rfl (by simp [*]; rfl) ?_ | refine AW.reg tok (by simp [*]; rfl) ?_ | refine AW.ifB (by simp [*]; rfl) ?_ | refine IfG.t ?_ | refine IfG.f ?_ | (refine IfG.p (fun hg => ?_) (fun hg => ?_) <;> (try (have hg' := hg; simp at hg'))) | (refine IfG.n (fun hg => ?_) (fun hg => ?_) <;> (try (have hg' := hg; simp at hg'))) | (refine OutOK.gateP (fun hg => ?_) (fun hg => ?_) <;> (try (have hg' := hg; simp at hg'))) | (refine OutOK.gateN (fun hg => ?_) (fun hg => ?_) <;> (try (have hg' := hg; simp at hg'))) | (refine IfG.g (fun hg => ?_) (fun hg => ?_) <;> (try (have hg' := hg; simp at hg'))) | (refine OutOK.gate (fun hg => ?_) (fun hg => ?_) <;> (try (have hg' := hg; simp at hg'))) | refine OutOK.callF [] (by simp [*]; rfl) (by simp [*]; rfl) (by simp [*]; rfl) hb54 (by apply c_spec_l19Good <;> first | assumption | exact Hd.out (by assumption) | omega) ⟨by simp [*], by simp [*], by simp [*], by simp [*], by simp [*]⟩ (by simp [*]) (by simp [*]; rfl) ?_ | refine OutOK.callF [] (by simp [*]; rfl) (by simp [*]; rfl) (by simp [*]; rfl) hb66 (by apply c_spec_l1Most <;> first | assumption | exact Hd.out (by assumption) | omega) ⟨by simp [*], by simp [*], by simp [*], by simp [*], by simp [*]⟩ (by simp [*]) (by simp [*]; rfl) ?_ | refine OutOK.callF [] (by simp [*]; rfl) (by simp [*]; rfl) (by simp [*]; rfl) hb71 (by apply c_spec_l1Least <;> first | assumption | exact Hd.out (by assumption) | omega) ⟨by simp [*], by simp [*], by simp [*], by simp [*], by simp [*]⟩ (by simp [*]) (by simp [*]; rfl) ?_ | refine OutOK.run (by simp [*]; rfl) ?_ | refine AW.ret ?_ | refine AW.skip ?_ | refine AW.exit ?_ | refine fin_r ?_ | refine fin_n ?_ | refine AW.block ?_ | refine blockQ_n ?_ | refine blockQ_r ?_ | refine blockQ_e ?_ | refine blockQ_o rfl ?_)
        refine AW.loopS (fun i => 1 ≤ i ∧ i ≤ 4) (fun i => [(1, .c (.sc (.int .i64 level))), (2, .pt 2000 [] 0), (6, .rf 101000 []), (7, .c (.sc (.int .i64 (y : Int)))), (8, .c (.sc (.int .i64 (x : Int)))), (9, .c (.sc (.int .i64 (n : Int)))), (10, .rf 67000 []), (11, .c (.sc (.int .i64 (loI (cellH w cs n) i)))), (12, .c (.sc (.int .i64 (hiI (cellH w cs n) i)))), (13, .c (.sc (.int .i64 (i : Int))))]) (fun i => [(2000, .bx [.sc (.int .i64 w), .sc (.int .i64 d), .sl true 1 (ints cs)]), (67000, .sv (.sl false 1 (ints (cellH w cs n)))), (101000, .sv (.sl false 1 (ints (cntL w cs level pre))))]) (fun i => 4 - i) 1 ⟨by omega, by omega⟩ [] (by simp) ⟨?_, ?_, by simp⟩ ?_
        · simp [hH.out, loI, hiI]
        · simp [hH.out, ints]
        rintro i ⟨hi1, hi4⟩
        rcases Nat.lt_or_ge i 4 with hi | hi
        · have e3 : wrap64 ((i : Int) + 1) = (i : Int) + 1 := w64 (by clear e1 e2 g1 g2 g3 g4; omega) (by clear e1 e2 g1 g2 g3 g4; omega)
          have hi' : (i : Int) < 4 := by clear e1 e2 g1 g2 g3 g4 e3; omega
          have hs1 := loI_succ (xs := cellH w cs n) (i := i) (by simpa using hi)
          have hs2 := hiI_succ (xs := cellH w cs n) (i := i) (by simpa using hi)
          have hs1 : Hd _ := hs1
          have hs2 : Hd _ := hs2
          repeat' (first | with_reducible refine OutOK.done ?_ | refine thenQ_n ?_ | refine thenQ_r ?_ | refine thenQ_e ?_ | refine AW.seq ?_ | refine AW.dreg tok mixed [(0, true), (1, true), (2, true), (3, true), (4, true), (5, true), (6, true), (7, true), (8, true), (9, true), (10, true), (11, true), (12, true), (13, true), (14, true), (15, true), (16, true), (17, true), (18, true), (19, true), (20, true), (21, true), (22, true), (23, true), (24, true), (25, true), (26, true), (27, true), (28, true), (29, false)] (by decide +kernel) rfl (by simp [*]; rfl) ?_ | refine AW.dreg tok mixed [(0, true), (1, true), (2, true), (3, true), (4, true), (5, true), (6, true), (7, false)] (by decide +kernel) rfl (by simp [*]; rfl) ?_ | refine AW.reg tok (by simp [*]; rfl) ?_ | refine AW.ifB (by simp [*]; rfl) ?_ | refine IfG.t ?_ | refine IfG.f ?_ | (refine IfG.p (fun hg => ?_) (fun hg => ?_) <;> (try (have hg' := hg; simp at hg'))) | (refine IfG.n (fun hg => ?_) (fun hg => ?_) <;> (try (have hg' := hg; simp at hg'))) | (refine OutOK.gateP (fun hg => ?_) (fun hg => ?_) <;> (try (have hg' := hg; simp at hg'))) | (refine OutOK.gateN (fun hg => ?_) (fun hg => ?_) <;> (try (have hg' := hg; simp at hg'))) | (refine IfG.g (fun hg => ?_) (fun hg => ?_) <;> (try (have hg' := hg; simp at hg'))) | (refine OutOK.gate (fun hg => ?_) (fun hg => ?_) <;> (try (have hg' := hg; simp at hg'))) | refine OutOK.callF [] (by simp [*]; rfl) (by simp [*]; rfl) (by simp [*]; rfl) hb54 (by apply c_spec_l19Good <;> first | assumption | exact Hd.out (by assumption) | omega) ⟨by simp [*], by simp [*], by simp [*], by simp [*], by simp [*]⟩ (by simp [*]) (by simp [*]; rfl) ?_ | refine OutOK.callF [] (by simp [*]; rfl) (by simp [*]; rfl) (by simp [*]; rfl) hb66 (by apply c_spec_l1Most <;> first | assumption | exact Hd.out (by assumption) | omega) ⟨by simp [*], by simp [*], by simp [*], by simp [*], by simp [*]⟩ (by simp [*]) (by simp [*]; rfl) ?_ | refine OutOK.callF [] (by simp [*]; rfl) (by simp [*]; rfl) (by simp [*]; rfl) hb71 (by apply c_spec_l1Least <;> first | assumption | exact Hd.out (by assumption) | omega) ⟨by simp [*], by simp [*], by simp [*], by simp [*], by simp [*]⟩ (by simp [*]) (by simp [*]; rfl) ?_ | refine OutOK.run (by simp [*]; rfl) ?_ | refine AW.ret ?_ | refine AW.skip ?_ | refine AW.exit ?_ | refine fin_r ?_ | refine fin_n ?_ | refine AW.block ?_ | refine blockQ_n ?_ | refine blockQ_r ?_ | refine blockQ_e ?_ | refine blockQ_o rfl ?_)
          refine ⟨i + 1, ⟨by clear e1 e2 g1 g2 g3 g4 e3; omega, by clear e1 e2 g1 g2 g3 g4 e3; omega⟩, ⟨[], by simp, ?_, by simp, by simp⟩, by clear e1 e2 g1 g2 g3 g4 e3; omega⟩
          simp [e3, hs1.out, hs2.out]
        · have hi4' : i = 4 := by clear e1 e2 g1 g2 g3 g4; omega
          subst hi4'
          clear hi hi1 hi4
          repeat' (first | with_reducible refine OutOK.done ?_ | refine thenQ_n ?_ | refine thenQ_r ?_ | refine thenQ_e ?_ | refine AW.seq ?_ | refine AW.dreg tok mixed [(0, true), (1, true), (2, true), (3, true), (4, true), (5, true), (6, true), (7, true), (8, true), (9, true), (10, true), (11, true), (12, true), (13, true), (14, true), (15, true), (16, true), (17, true), (18, true), (19, true), (20, true), (21, true), (22, true), (23, true), (24, true), (25, true), (26, true), (27, true), (28, true), (29, false)] (by decide +kernel) rfl (by simp [*]; rfl) ?_ | refine AW.dreg tok mixed [(0, true), (1, true), (2, true), (3, true), (4, true), (5, true), (6, true), (7, false)] (by decide +kernel) rfl (by simp [*]; rfl) ?_ | refine AW.reg tok (by simp [*]; rfl) ?_ | refine AW.ifB (by simp [*]; rfl) ?_ | refine IfG.t ?_ | refine IfG.f ?_ | (refine IfG.p (fun hg => ?_) (fun hg => ?_) <;> (try (have hg' := hg; simp at hg'))) | (refine IfG.n (fun hg => ?_) (fun hg => ?_) <;> (try (have hg' := hg; simp at hg'))) | (refine OutOK.gateP (fun hg => ?_) (fun hg => ?_) <;> (try (have hg' := hg; simp at hg'))) | (refine OutOK.gateN (fun hg => ?_) (fun hg => ?_) <;> (try (have hg' := hg; simp at hg'))) | (refine IfG.g (fun hg => ?_) (fun hg => ?_) <;> (try (have hg' := hg; simp at hg'))) | (refine OutOK.gate (fun hg => ?_) (fun hg => ?_) <;> (try (have hg' := hg; simp at hg'))) | refine OutOK.callF [] (by simp [*]; rfl) (by simp [*]; rfl) (by simp [*]; rfl) hb54 (by apply c_spec_l19Good <;> first | assumption | exact Hd.out (by assumption) | omega) ⟨by simp [*], by simp [*], by simp [*], by simp [*], by simp [*]⟩ (by simp [*]) (by simp [*]; rfl) ?_ | refine OutOK.callF [] (by simp [*]; rfl) (by simp [*]; rfl) (by simp [*]; rfl) hb66 (by apply c_spec_l1Most <;> first | assumption | exact Hd.out (by assumption) | omega) ⟨by simp [*], by simp [*], by simp [*], by simp [*], by simp [*]⟩ (by simp [*]) (by simp [*]; rfl) ?_ | refine OutOK.callF [] (by simp [*]; rfl) (by simp [*]; rfl) (by simp [*]; rfl) hb71 (by apply c_spec_l1Least <;> first | assumption | exact Hd.out (by assumption) | omega) ⟨by simp [*], by simp [*], by simp [*], by simp [*], by simp [*]⟩ (by simp [*]) (by simp [*]; rfl) ?_ | refine OutOK.run (by simp [*]; rfl) ?_ | refine AW.ret ?_ | refine AW.skip ?_ | refine AW.exit ?_ | refine fin_r ?_ | refine fin_n ?_ | refine AW.block ?_ | refine blockQ_n ?_ | refine blockQ_r ?_ | refine blockQ_e ?_ | refine blockQ_o rfl ?_)
          · have hT : cellT w cs level n = true := by simp [cellT, *]
            refine ⟨x + 1, by clear e1 e2 g1 g2 g3 g4; omega, ⟨[], by simp, by simp [e2], ?_, by simp⟩, by clear e1 e2 g1 g2 g3 g4; omega⟩
            rw [hP.out, cntL_yes hT]
            simp
          · have hT : cellT w cs level n = false := by simp [cellT, *]
            refine ⟨x + 1, by clear e1 e2 g1 g2 g3 g4; omega, ⟨[], by simp, by simp [e2], ?_, by simp⟩, by clear e1 e2 g1 g2 g3 g4; omega⟩
            rw [hP.out, cntL_no hT]
            simp
          · have hT : cellT w cs level n = false := by simp [cellT, *]
            refine ⟨x + 1, by clear e1 e2 g1 g2 g3 g4; omega, ⟨[], by simp, by simp [e2], ?_, by simp⟩, by clear e1 e2 g1 g2 g3 g4; omega⟩
            rw [hP.out, cntL_no hT]
            simp
      · have hcx : ¬ (x : Int) + 1 < w := by clear e1 e2; omega
        have hxw' : Hd (x = w - 1) := Hd.mk (by clear e1 e2; omega)
        clear h hx
        repeat' (first | with_reducible refine OutOK.done ?_ | refine thenQ_n ?_ | refine thenQ_r ?_ | refine thenQ_e ?_ | refine AW.seq ?_ | refine AW.dreg tok mixed [(0, true), (1, true), (2, true), (3, true), (4, true), (5, true), (6, true), (7, true), (8, true), (9, true), (10, true), (11, true), (12, true), (13, true), (14, true), (15, true), (16, true), (17, true), (18, true), (19, true), (20, true), (21, true), (22, true), (23, true), (24, true), (25, true), (26, true), (27, true), (28, true), (29, false)] (by decide +kernel) rfl (by simp [*]; rfl) ?_ | refine AW.dreg tok mixed [(0, true), (1, true), (2, true), (3, true), (4, true), (5, true), (6, true), (7, false)] (by decide +kernel) rfl (by simp [*]; rfl) ?_ | refine AW.reg tok (by simp [*]; rfl) ?_ | refine AW.ifB (by simp [*]; rfl) ?_ | refine IfG.t ?_ | refine IfG.f ?_ | (refine IfG.p (fun hg => ?_) (fun hg => ?_) <;> (try (have hg' := hg; simp at hg'))) | (refine IfG.n (fun hg => ?_) (fun hg => ?_) <;> (try (have hg' := hg; simp at hg'))) | (refine OutOK.gateP (fun hg => ?_) (fun hg => ?_) <;> (try (have hg' := hg; simp at hg'))) | (refine OutOK.gateN (fun hg => ?_) (fun hg => ?_) <;> (try (have hg' := hg; simp at hg'))) | (refine IfG.g (fun hg => ?_) (fun hg => ?_) <;> (try (have hg' := hg; simp at hg'))) | (refine OutOK.gate (fun hg => ?_) (fun hg => ?_) <;> (try (have hg' := hg; simp at hg'))) | refine OutOK.callF [] (by simp [*]; rfl) (by simp [*]; rfl) (by simp [*]; rfl) hb54 (by apply c_spec_l19Good <;> first | assumption | exact Hd.out (by assumption) | omega) ⟨by simp [*], by simp [*], by simp [*], by simp [*], by simp [*]⟩ (by simp [*]) (by simp [*]; rfl) ?_ | refine OutOK.callF [] (by simp [*]; rfl) (by simp [*]; rfl) (by simp [*]; rfl) hb66 (by apply c_spec_l1Most <;> first | assumption | exact Hd.out (by assumption) | omega) ⟨by simp [*], by simp [*], by simp [*], by simp [*], by simp [*]⟩ (by simp [*]) (by simp [*]; rfl) ?_ | refine OutOK.callF [] (by simp [*]; rfl) (by simp [*]; rfl) (by simp [*]; rfl) hb71 (by apply c_spec_l1Least <;> first | assumption | exact Hd.out (by assumption) | omega) ⟨by simp [*], by simp [*], by simp [*], by simp [*], by simp [*]⟩ (by simp [*]) (by simp [*]; rfl) ?_ | refine OutOK.run (by simp [*]; rfl) ?_ | refine AW.ret ?_ | refine AW.skip ?_ | refine AW.exit ?_ | refine fin_r ?_ | refine fin_n ?_ | refine AW.block ?_ | refine blockQ_n ?_ | refine blockQ_r ?_ | refine blockQ_e ?_ | refine blockQ_o rfl ?_)
        have hxw := hxw'.out
        refine ⟨y + 1, hy1, ⟨[], by simp, ?_, ?_, by simp⟩, by clear e1 e2; omega⟩
        · simp [e1]
        · subst hxw
          simp [cellC_succ]
    · have hc : ¬ (y : Int) + 1 < d := by omega
      have e1 : wrap64 ((y : Int) + 1) = (y : Int) + 1 := w64 (by omega) (by omega)
      have hyd : d - 1 = y := by omega
      have hL' : contL (w : Int) (d : Int) cs level = cntL w cs level (cellC w y) := by rw [hL, hyd]
      clear hL hyd
      repeat' (first | with_reducible refine OutOK.done ?_ | refine thenQ_n ?_ | refine thenQ_r ?_ | refine thenQ_e ?_ | refine AW.seq ?_ | refine AW.dreg tok mixed [(0, true), (1, true), (2, true), (3, true), (4, true), (5, true), (6, true), (7, true), (8, true), (9, true), (10, true), (11, true), (12, true), (13, true), (14, true), (15, true), (16, true), (17, true), (18, true), (19, true), (20, true), (21, true), (22, true), (23, true), (24, true), (25, true), (26, true), (27, true), (28, true), (29, false)] (by decide +kernel) rfl (by simp [*]; rfl) ?_ | refine AW.dreg tok mixed [(0, true), (1, true), (2, true), (3, true), (4, true), (5, true), (6, true), (7, false)] (by decide +kernel) rfl (by simp [*]; rfl) ?_ | refine AW.reg tok (by simp [*]; rfl) ?_ | refine AW.ifB (by simp [*]; rfl) ?_ | refine IfG.t ?_ | refine IfG.f ?_ | (refine IfG.p (fun hg => ?_) (fun hg => ?_) <;> (try (have hg' := hg; simp at hg'))) | (refine IfG.n (fun hg => ?_) (fun hg => ?_) <;> (try (have hg' := hg; simp at hg'))) | (refine OutOK.gateP (fun hg => ?_) (fun hg => ?_) <;> (try (have hg' := hg; simp at hg'))) | (refine OutOK.gateN (fun hg => ?_) (fun hg => ?_) <;> (try (have hg' := hg; simp at hg'))) | (refine IfG.g (fun hg => ?_) (fun hg => ?_) <;> (try (have hg' := hg; simp at hg'))) | (refine OutOK.gate (fun hg => ?_) (fun hg => ?_) <;> (try (have hg' := hg; simp at hg'))) | refine OutOK.callF [] (by simp [*]; rfl) (by simp [*]; rfl) (by simp [*]; rfl) hb54 (by apply c_spec_l19Good <;> first | assumption | exact Hd.out (by assumption) | omega) ⟨by simp [*], by simp [*], by simp [*], by simp [*], by simp [*]⟩ (by simp [*]) (by simp [*]; rfl) ?_ | refine OutOK.callF [] (by simp [*]; rfl) (by simp [*]; rfl) (by simp [*]; rfl) hb66 (by apply c_spec_l1Most <;> first | assumption | exact Hd.out (by assumption) | omega) ⟨by simp [*], by simp [*], by simp [*], by simp [*], by simp [*]⟩ (by simp [*]) (by simp [*]; rfl) ?_ | refine OutOK.callF [] (by simp [*]; rfl) (by simp [*]; rfl) (by simp [*]; rfl) hb71 (by apply c_spec_l1Least <;> first | assumption | exact Hd.out (by assumption) | omega) ⟨by simp [*], by simp [*], by simp [*], by simp [*], by simp [*]⟩ (by simp [*]) (by simp [*]; rfl) ?_ | refine OutOK.run (by simp [*]; rfl) ?_ | refine AW.ret ?_ | refine AW.skip ?_ | refine AW.exit ?_ | refine fin_r ?_ | refine fin_n ?_ | refine AW.block ?_ | refine blockQ_n ?_ | refine blockQ_r ?_ | refine blockQ_e ?_ | refine blockQ_o rfl ?_)
      simp [Try.f38, hL']
end Go.Proofs.Ytgojidjfidldbaa.EngS


set_option linter.unusedSimpArgs false
set_option linter.unusedVariables false
set_option maxHeartbeats 4000000
set_option maxRecDepth 10000
namespace Go.Proofs.Ytgojidjfidldbaa.EngS
open Go Go.Proofs Go.Eng Go.RowKit
theorem law_FnExactContourCells (x : Int × Int × List Int) (level : Int) (hw : (Lit.int .i64 x.1).wf = true ∧ (Lit.int .i64 x.2.1).wf = true ∧ x.2.2.length ≤ maxLen ∧ ∀ y ∈ x.2.2, (Lit.int .i64 y).wf = true) (hb : (Lit.int .i64 level).wf = true) :
  ACall Try.prog 10 [surf x.1 x.2.1 x.2.2, int level] [.x, .x] [boo true] := by
  obtain ⟨w, d, cs⟩ := x
  have hm : maxLen = 9223372036854775807 := rfl
  have h1 := hw.2.2.1
  simp only [hm] at h1 ⊢
  clear hw hb hm
  rcases Nat.lt_or_ge 1048576 cs.length with hs | hs
  · have hlt : lef 1048576 cs.length < 0 := by unfold lef; split <;> omega
    refine ACall.of (N := 101) tok Try.func10 rfl rfl rfl (by simp) ?_
    repeat' (first | with_reducible refine OutOK.done ?_ | refine thenQ_n ?_ | refine thenQ_r ?_ | refine thenQ_e ?_ | refine AW.seq ?_ | refine AW.dreg tok mixed [(0, true), (1, true), (2, true), (3, true), (4, true)] (by decide +kernel) rfl (by simp [*]; rfl) ?_ | refine AW.reg tok (by simp [*]; rfl) ?_ | refine AW.ifB (by simp [*]; rfl) ?_ | refine IfG.t ?_ | refine IfG.f ?_ | (refine IfG.p (fun hg => ?_) (fun hg => ?_) <;> (try (have hg' := hg; simp at hg'))) | (refine IfG.n (fun hg => ?_) (fun hg => ?_) <;> (try (have hg' := hg; simp at hg'))) | (refine OutOK.gateP (fun hg => ?_) (fun hg => ?_) <;> (try (have hg' := hg; simp at hg'))) | (refine OutOK.gateN (fun hg => ?_) (fun hg => ?_) <;> (try (have hg' := hg; simp at hg'))) | (refine IfG.g (fun hg => ?_) (fun hg => ?_) <;> (try (have hg' := hg; simp at hg'))) | (refine OutOK.gate (fun hg => ?_) (fun hg => ?_) <;> (try (have hg' := hg; simp at hg'))) | refine OutOK.callF [] (by simp [*]; rfl) (by simp [*]; rfl) (by simp [*]; rfl) hb15 (by apply c_laws_szSurface <;> first | assumption | exact Hd.out (by assumption) | omega) ⟨by simp [*], by simp [*], by simp [*], by simp [*], by simp [*]⟩ (by simp [*]) (by simp [*]; rfl) ?_ | refine OutOK.callF [] (by simp [*]; rfl) (by simp [*]; rfl) (by simp [*]; rfl) hb17 (by apply c_laws_toSurface <;> first | assumption | exact Hd.out (by assumption) | omega) ⟨by simp [*], by simp [*], by simp [*], by simp [*], by simp [*]⟩ (by simp [*]) (by simp [*]; rfl) ?_ | refine OutOK.callF [] (by simp [*]; rfl) (by simp [*]; rfl) (by simp [*]; rfl) hb19 (by apply c_laws_eqSurface <;> first | assumption | exact Hd.out (by assumption) | omega) ⟨by simp [*], by simp [*], by simp [*], by simp [*], by simp [*]⟩ (by simp [*]) (by simp [*]; rfl) ?_ | refine OutOK.callF [] (by simp [*]; rfl) (by simp [*]; rfl) (by simp [*]; rfl) hb31 (by apply c_laws_markSurface <;> first | assumption | exact Hd.out (by assumption) | omega) ⟨by simp [*], by simp [*], by simp [*], by simp [*], by simp [*]⟩ (by simp [*]) (by simp [*]; rfl) ?_ | refine OutOK.callF [] (by simp [*]; rfl) (by simp [*]; rfl) (by simp [*]; rfl) hb38 (by apply c_spec_ContourCells <;> first | assumption | exact Hd.out (by assumption) | omega) ⟨by simp [*], by simp [*], by simp [*], by simp [*], by simp [*]⟩ (by simp [*]) (by simp [*]; rfl) ?_ | refine OutOK.callF [] (by simp [*]; rfl) (by simp [*]; rfl) (by simp [*]; rfl) hb39 (by apply c_impl_ContourCells <;> first | assumption | exact Hd.out (by assumption) | omega) ⟨by simp [*], by simp [*], by simp [*], by simp [*], by simp [*]⟩ (by simp [*]) (by simp [*]; rfl) ?_ | refine OutOK.callF [] (by simp [*]; rfl) (by simp [*]; rfl) (by simp [*]; rfl) hb40 (by apply c_laws_eqIntS <;> first | assumption | exact Hd.out (by assumption) | omega) ⟨by simp [*], by simp [*], by simp [*], by simp [*], by simp [*]⟩ (by simp [*]) (by simp [*]; rfl) ?_ | refine OutOK.callF [] (by simp [*]; rfl) (by simp [*]; rfl) (by simp [*]; rfl) hb41 (by apply c_laws_markIntS <;> first | assumption | exact Hd.out (by assumption) | omega) ⟨by simp [*], by simp [*], by simp [*], by simp [*], by simp [*]⟩ (by simp [*]) (by simp [*]; rfl) ?_ | refine OutOK.callF [] (by simp [*]; rfl) (by simp [*]; rfl) (by simp [*]; rfl) hb42 (by apply c_laws_heldIntS <;> first | assumption | exact Hd.out (by assumption) | omega) ⟨by simp [*], by simp [*], by simp [*], by simp [*], by simp [*]⟩ (by simp [*]) (by simp [*]; rfl) ?_ | refine OutOK.run (by simp [*]; rfl) ?_ | refine AW.ret ?_ | refine AW.skip ?_ | refine AW.exit ?_ | refine fin_r ?_ | refine fin_n ?_ | refine AW.block ?_ | refine blockQ_n ?_ | refine blockQ_r ?_ | refine blockQ_e ?_ | refine blockQ_o rfl ?_)
    all_goals (try simp [*, Try.f10])
  · have hlt : ¬ lef 1048576 cs.length < 0 := by unfold lef; split <;> omega
    have hc : (contL w d cs level).length ≤ 64 := contL_len w d cs level
    have hk : ¬ (1 : Int) + cs.length < 0 := by omega
    have hk2 : ¬ (1 : Int) + (contL w d cs level).length < 0 := by omega
    refine ACall.of (N := 101) tok Try.func10 rfl rfl rfl (by simp) ?_
    repeat' (first | with_reducible refine OutOK.done ?_ | refine thenQ_n ?_ | refine thenQ_r ?_ | refine thenQ_e ?_ | refine AW.seq ?_ | refine AW.dreg tok mixed [(0, true), (1, true), (2, true), (3, true), (4, true)] (by decide +kernel) rfl (by simp [*]; rfl) ?_ | refine AW.reg tok (by simp [*]; rfl) ?_ | refine AW.ifB (by simp [*]; rfl) ?_ | refine IfG.t ?_ | refine IfG.f ?_ | (refine IfG.p (fun hg => ?_) (fun hg => ?_) <;> (try (have hg' := hg; simp at hg'))) | (refine IfG.n (fun hg => ?_) (fun hg => ?_) <;> (try (have hg' := hg; simp at hg'))) | (refine OutOK.gateP (fun hg => ?_) (fun hg => ?_) <;> (try (have hg' := hg; simp at hg'))) | (refine OutOK.gateN (fun hg => ?_) (fun hg => ?_) <;> (try (have hg' := hg; simp at hg'))) | (refine IfG.g (fun hg => ?_) (fun hg => ?_) <;> (try (have hg' := hg; simp at hg'))) | (refine OutOK.gate (fun hg => ?_) (fun hg => ?_) <;> (try (have hg' := hg; simp at hg'))) | refine OutOK.callF [] (by simp [*]; rfl) (by simp [*]; rfl) (by simp [*]; rfl) hb15 (by apply c_laws_szSurface <;> first | assumption | exact Hd.out (by assumption) | omega) ⟨by simp [*], by simp [*], by simp [*], by simp [*], by simp [*]⟩ (by simp [*]) (by simp [*]; rfl) ?_ | refine OutOK.callF [] (by simp [*]; rfl) (by simp [*]; rfl) (by simp [*]; rfl) hb17 (by apply c_laws_toSurface <;> first | assumption | exact Hd.out (by assumption) | omega) ⟨by simp [*], by simp [*], by simp [*], by simp [*], by simp [*]⟩ (by simp [*]) (by simp [*]; rfl) ?_ | refine OutOK.callF [] (by simp [*]; rfl) (by simp [*]; rfl) (by simp [*]; rfl) hb19 (by apply c_laws_eqSurface <;> first | assumption | exact Hd.out (by assumption) | omega) ⟨by simp [*], by simp [*], by simp [*], by simp [*], by simp [*]⟩ (by simp [*]) (by simp [*]; rfl) ?_ | refine OutOK.callF [true] (by simp [*]; rfl) (by simp [*]; rfl) (by simp [*]; rfl) hb31 (by apply c_laws_markSurface <;> first | assumption | exact Hd.out (by assumption) | omega) ⟨by simp [*], by simp [*], by simp [*], by simp [*], by simp [*]⟩ (by simp [*]) (by simp [*]; rfl) ?_ | refine OutOK.callF [] (by simp [*]; rfl) (by simp [*]; rfl) (by simp [*]; rfl) hb38 (by apply c_spec_ContourCells <;> first | assumption | exact Hd.out (by assumption) | omega) ⟨by simp [*], by simp [*], by simp [*], by simp [*], by simp [*]⟩ (by simp [*]) (by simp [*]; rfl) ?_ | refine OutOK.callF [] (by simp [*]; rfl) (by simp [*]; rfl) (by simp [*]; rfl) hb39 (by apply c_impl_ContourCells <;> first | assumption | exact Hd.out (by assumption) | omega) ⟨by simp [*], by simp [*], by simp [*], by simp [*], by simp [*]⟩ (by simp [*]) (by simp [*]; rfl) ?_ | refine OutOK.callF [] (by simp [*]; rfl) (by simp [*]; rfl) (by simp [*]; rfl) hb40 (by apply c_laws_eqIntS <;> first | assumption | exact Hd.out (by assumption) | omega) ⟨by simp [*], by simp [*], by simp [*], by simp [*], by simp [*]⟩ (by simp [*]) (by simp [*]; rfl) ?_ | refine OutOK.callF [true] (by simp [*]; rfl) (by simp [*]; rfl) (by simp [*]; rfl) hb41 (by apply c_laws_markIntS <;> first | assumption | exact Hd.out (by assumption) | omega) ⟨by simp [*], by simp [*], by simp [*], by simp [*], by simp [*]⟩ (by simp [*]) (by simp [*]; rfl) ?_ | refine OutOK.callF [] (by simp [*]; rfl) (by simp [*]; rfl) (by simp [*]; rfl) hb42 (by apply c_laws_heldIntS <;> first | assumption | exact Hd.out (by assumption) | omega) ⟨by simp [*], by simp [*], by simp [*], by simp [*], by simp [*]⟩ (by simp [*]) (by simp [*]; rfl) ?_ | refine OutOK.run (by simp [*]; rfl) ?_ | refine AW.ret ?_ | refine AW.skip ?_ | refine AW.exit ?_ | refine fin_r ?_ | refine fin_n ?_ | refine AW.block ?_ | refine blockQ_n ?_ | refine blockQ_r ?_ | refine blockQ_e ?_ | refine blockQ_o rfl ?_)
    all_goals (try simp [*, Try.f10])
end Go.Proofs.Ytgojidjfidldbaa.EngS

