/- Texts towards the law WheelOwn, put together (part 6): an abstract walk and its proof, functions of the program as trees, and plain laws. Conditions: none. -/
import Derived.KernelRfl
import Derived.WalkKit
import Derived.Test.YtnhiilbmgkbbaaaK5
namespace Go.Proofs.Ytnhiilbmgkbbaaa.X
open Go Go.RowKit Go.Proofs.Ytnhiilbmgkbbaaa.Abs
open Go.IntKind renaming wrap -> wW
set_option maxRecDepth 100000
set_option linter.unusedVariables false
def wheelOwn_L3004_19 : LS := ⟨19, [(4054000, 4054000), (54000, 54000), (42000, 42000), (48000, 48000), (9, 9), (4, 4), (8000009, 8000009)], ⟨101, [(78, .v (.one (.i .i64))), (22, .v (.one (.sub 4054000 2))), (68, .v (.agg (List.append [] (grs 54000 96)))), (63, .v (.agg (List.append [.i .i64] (List.append (grs 42000 96) (List.append [.i .i64] (List.append (grs 48000 96) (List.append [.i .i64] (grs 54000 96)))))))), (9, .v (.one (.ptr 9 0))), (4, .v (.one (.ptr 4 0))), (18, .v (.one (.b))), (64, .v (.one (.kn .i64 2))), (69, .v (.one (.i .i64))), (77, .v (.one (.i .i64)))], [(4054000, .jk 33 2), (54000, .jdH 33 33 1 0 2 4054000), (42000, .jd 33 33 1 0 2), (48000, .jd 33 33 1 0 2), (9, .cells (List.append [.i .i64] (grs 8000009 96))), (4, .cellsG [.i .i64] 14 96), (8000009, .grp 33 14 false)]⟩, [⟨some 6, [(54000, 54000), (42000, 42000), (48000, 48000), (9, 9), (4, 4), (8000009, 8000009)], ⟨101, [(68, .v (.agg (List.append [] (grs 54000 96)))), (63, .v (.agg (List.append [.i .i64] (List.append (grs 42000 96) (List.append [.i .i64] (List.append (grs 48000 96) (List.append [.i .i64] (grs 54000 96)))))))), (9, .v (.one (.ptr 9 0))), (4, .v (.one (.ptr 4 0))), (18, .v (.one (.b))), (64, .v (.one (.kn .i64 2))), (69, .v (.one (.i .i64)))], [(54000, .jd 33 33 1 0 2), (42000, .jd 33 33 1 0 2), (48000, .jd 33 33 1 0 2), (9, .cells (List.append [.i .i64] (grs 8000009 96))), (4, .cellsG [.i .i64] 14 96), (8000009, .grp 33 14 false)]⟩⟩], []⟩
abbrev ty4_ : Type := (Int × (Nat × (Nat × (Int × (Int × (Int × (Bool × (Int × (Int × (Nat × (Nat × (Nat × ((List (Nat × Nat)) × ((List (Nat × Nat)) × ((List (Nat × Nat)) × (Int × (Int × ((List (List TDue)) × (Nat × ((List (List TDue)) × Unit))))))))))))))))))))
abbrev ty5_ : Type := (Int × (Int × (Int × (Bool × (Int × ((List (Nat × Nat)) × ((List (Nat × Nat)) × ((List (Nat × Nat)) × (Int × (Int × ((List (List TDue)) × (Nat × ((List (List TDue)) × Unit)))))))))))))
def wheelOwn_step3004_19 : ty4_ -> Tr (ty4_ ⊕ ty5_) :=
 fun (a0, a1, a2, a3, a4, a5, a6, a7, a8, a9, a10, a11, a12, a13, a14, a15, a16, a17, a18, a19, _) =>
 .ite (decide (a0 < a8)) (
 .grd (decide (0 <= a0 /\ a0 < (↑a2 : Int))) (
 .grd (decide (a1 + Int.toNat a0 < a10)) (
 .grd (decide (0 <= a0 /\ a0 < (↑a2 : Int))) (
 .grd (decide (a1 + Int.toNat a0 < a10)) (
 .grd (decide (obB (sameN (14 : Nat) (95 : Nat) a17) = (0 : Nat))) (
 .ret (Sum.inl (wW .i64 (a0 + 1), (a1, (a2, (a3, (a4, (a5, (a6, (a7, (a8, (a9, (a10, ((a11, some ((4054000 : Nat), vk (4054000 : Nat))).fst, (a12, (a13, (a14, (a15, (a16, (a17, (a18, (a19, ()))))))))))))))))))))))))))) (
 .grd (decide (obB (sameN (14 : Nat) (95 : Nat) a17) = (0 : Nat))) (
 .ret (Sum.inr (a3, (a4, (a5, (a6, (a7, (List.set a12 a11 (a9, a10), (a13, (a14, (a15, (a16, (a17, (a18, (a19, ()))))))))))))))))
def wheelOwn_loop3004_19 (x : ty4_) : Option ty5_ := loopO 30040019 (fun x => (wheelOwn_step3004_19 x).eval) 18446744073709551616 x
def wheelOwn_L3004_15 : LS := ⟨15, [(54000, 54000), (42000, 42000), (48000, 48000), (9, 9), (4, 4), (8000009, 8000009)], ⟨101, [(69, .v (.one (.i .i64))), (68, .v (.agg (List.append [] (grs 54000 96)))), (63, .v (.agg (List.append [.i .i64] (List.append (grs 42000 96) (List.append [.i .i64] (List.append (grs 48000 96) (List.append [.i .i64] (grs 54000 96)))))))), (9, .v (.one (.ptr 9 0))), (4, .v (.one (.ptr 4 0))), (18, .v (.one (.b))), (64, .v (.one (.kn .i64 2)))], [(54000, .jd 33 33 1 0 2), (42000, .jd 33 33 1 0 2), (48000, .jd 33 33 1 0 2), (9, .cells (List.append [.i .i64] (grs 8000009 96))), (4, .cellsG [.i .i64] 14 96), (8000009, .grp 33 14 false)]⟩, [⟨some 4, [(42000, 42000), (48000, 48000), (54000, 54000), (9, 9), (4, 4), (8000009, 8000009)], ⟨101, [(63, .v (.agg (List.append [.i .i64] (List.append (grs 42000 96) (List.append [.i .i64] (List.append (grs 48000 96) (List.append [.i .i64] (grs 54000 96)))))))), (9, .v (.one (.ptr 9 0))), (4, .v (.one (.ptr 4 0))), (18, .v (.one (.b))), (64, .v (.one (.kn .i64 2)))], [(42000, .jd 33 33 1 0 2), (48000, .jd 33 33 1 0 2), (54000, .jd 33 33 1 0 2), (9, .cells (List.append [.i .i64] (grs 8000009 96))), (4, .cellsG [.i .i64] 14 96), (8000009, .grp 33 14 false)]⟩⟩], []⟩
abbrev ty6_ : Type := (Int × (Int × (Int × (Int × (Bool × ((List (Nat × Nat)) × ((List (Nat × Nat)) × ((List (Nat × Nat)) × (Int × (Int × ((List (List TDue)) × (Nat × ((List (List TDue)) × Unit)))))))))))))
abbrev ty7_ : Type := (Int × (Int × (Int × (Bool × ((List (Nat × Nat)) × ((List (Nat × Nat)) × ((List (Nat × Nat)) × (Int × (Int × ((List (List TDue)) × (Nat × ((List (List TDue)) × Unit))))))))))))
def wheelOwn_step3004_15 : ty6_ -> Tr (ty6_ ⊕ ty7_) :=
 fun (a0, a1, a2, a3, a4, a5, a6, a7, a8, a9, a10, a11, a12, _) =>
 .ite (decide (a0 < 96)) (
 .grd (decide (0 <= a0 /\ a0 < (↑(96 : Nat) : Int))) (
 .opt (a5[Int.toNat a0]?) (fun r0 =>
 .grd (decide ((↑r0.snd : Int) = (↑r0.snd : Int))) (
 .grd (decide (obB (sameN (14 : Nat) (95 : Nat) a10) = (0 : Nat))) (
 .opt ((wheelOwn_loop3004_19 (0, ((0 : Nat), (r0.snd, (a1, (a2, (a3, (a4, (a0, ((↑r0.snd : Int), (r0.fst, (r0.snd, ((Int.toNat a0, some (hkey (54000 : Nat), (1 : Nat))).fst, (a5, (a6, (a7, (a8, (a9, (a10, (a11, (a12, ())))))))))))))))))))))) (fun r1 =>
 .grd (decide (obB (sameN (14 : Nat) (95 : Nat) r1.2.2.2.2.2.2.2.2.2.2.1) = (0 : Nat))) (
 .ret (Sum.inl (wW .i64 (r1.2.2.2.2.1 + 1), (r1.1, (r1.2.1, (r1.2.2.1, (r1.2.2.2.1, (r1.2.2.2.2.2.1, (r1.2.2.2.2.2.2.1, (r1.2.2.2.2.2.2.2.1, (r1.2.2.2.2.2.2.2.2.1, (r1.2.2.2.2.2.2.2.2.2.1, (r1.2.2.2.2.2.2.2.2.2.2.1, (r1.2.2.2.2.2.2.2.2.2.2.2.1, (r1.2.2.2.2.2.2.2.2.2.2.2.2.1, ()))))))))))))))))))))) (
 .grd (decide (obB (sameN (14 : Nat) (95 : Nat) a10) = (0 : Nat))) (
 .ret (Sum.inr (a1, (a2, (a3, (a4, (a6, (a7, (a5, (a8, (a9, (a10, (a11, (a12, ())))))))))))))))
def wheelOwn_loop3004_15 (x : ty6_) : Option ty7_ := loopO 30040015 (fun x => (wheelOwn_step3004_15 x).eval) 18446744073709551616 x
def wheelOwn_L2004_19 : LS := ⟨19, [(4048000, 4048000), (48000, 48000), (42000, 42000), (54000, 54000), (9, 9), (4, 4), (8000009, 8000009)], ⟨101, [(78, .v (.one (.i .i64))), (22, .v (.one (.sub 4048000 2))), (68, .v (.agg (List.append [] (grs 48000 96)))), (63, .v (.agg (List.append [.i .i64] (List.append (grs 42000 96) (List.append [.i .i64] (List.append (grs 48000 96) (List.append [.i .i64] (grs 54000 96)))))))), (9, .v (.one (.ptr 9 0))), (4, .v (.one (.ptr 4 0))), (18, .v (.one (.b))), (64, .v (.one (.kn .i64 1))), (69, .v (.one (.i .i64))), (77, .v (.one (.i .i64)))], [(4048000, .jk 33 2), (48000, .jdH 33 33 1 0 2 4048000), (42000, .jd 33 33 1 0 2), (54000, .grp 33 14 true), (9, .cells (List.append [.i .i64] (grs 8000009 96))), (4, .cellsG [.i .i64] 14 96), (8000009, .grp 33 14 false)]⟩, [⟨some 6, [(48000, 48000), (42000, 42000), (54000, 54000), (9, 9), (4, 4), (8000009, 8000009)], ⟨101, [(68, .v (.agg (List.append [] (grs 48000 96)))), (63, .v (.agg (List.append [.i .i64] (List.append (grs 42000 96) (List.append [.i .i64] (List.append (grs 48000 96) (List.append [.i .i64] (grs 54000 96)))))))), (9, .v (.one (.ptr 9 0))), (4, .v (.one (.ptr 4 0))), (18, .v (.one (.b))), (64, .v (.one (.kn .i64 1))), (69, .v (.one (.i .i64)))], [(48000, .jd 33 33 1 0 2), (42000, .jd 33 33 1 0 2), (54000, .grp 33 14 true), (9, .cells (List.append [.i .i64] (grs 8000009 96))), (4, .cellsG [.i .i64] 14 96), (8000009, .grp 33 14 false)]⟩⟩], []⟩
abbrev ty8_ : Type := (Int × (Nat × (Nat × (Int × (Int × (Int × (Bool × (Int × (Int × (Nat × (Nat × (Nat × ((List (Nat × Nat)) × ((List (Nat × Nat)) × (Nat × ((List (List TDue)) × (Int × (Int × ((List (List TDue)) × (Nat × ((List (List TDue)) × Unit)))))))))))))))))))))
abbrev ty9_ : Type := (Int × (Int × (Int × (Bool × (Int × ((List (Nat × Nat)) × ((List (Nat × Nat)) × (Nat × ((List (List TDue)) × (Int × (Int × ((List (List TDue)) × (Nat × ((List (List TDue)) × Unit))))))))))))))
def wheelOwn_step2004_19 : ty8_ -> Tr (ty8_ ⊕ ty9_) :=
 fun (a0, a1, a2, a3, a4, a5, a6, a7, a8, a9, a10, a11, a12, a13, a14, a15, a16, a17, a18, a19, a20, _) =>
 .ite (decide (a0 < a8)) (
 .grd (decide (0 <= a0 /\ a0 < (↑a2 : Int))) (
 .grd (decide (a1 + Int.toNat a0 < a10)) (
 .grd (decide (0 <= a0 /\ a0 < (↑a2 : Int))) (
 .grd (decide (a1 + Int.toNat a0 < a10)) (
 .grd (decide (obB (sameN (14 : Nat) (95 : Nat) a18) = (0 : Nat))) (
 .ret (Sum.inl (wW .i64 (a0 + 1), (a1, (a2, (a3, (a4, (a5, (a6, (a7, (a8, (a9, (a10, ((a11, some ((4048000 : Nat), vk (4048000 : Nat))).fst, (a12, (a13, (a14, (a15, (a16, (a17, (a18, (a19, (a20, ())))))))))))))))))))))))))))) (
 .grd (decide (obB (sameN (14 : Nat) (95 : Nat) a18) = (0 : Nat))) (
 .ret (Sum.inr (a3, (a4, (a5, (a6, (a7, (List.set a12 a11 (a9, a10), (a13, (a14, (a15, (a16, (a17, (a18, (a19, (a20, ())))))))))))))))))
def wheelOwn_loop2004_19 (x : ty8_) : Option ty9_ := loopO 20040019 (fun x => (wheelOwn_step2004_19 x).eval) 18446744073709551616 x
def wheelOwn_L2004_15 : LS := ⟨15, [(48000, 48000), (42000, 42000), (54000, 54000), (9, 9), (4, 4), (8000009, 8000009)], ⟨101, [(69, .v (.one (.i .i64))), (68, .v (.agg (List.append [] (grs 48000 96)))), (63, .v (.agg (List.append [.i .i64] (List.append (grs 42000 96) (List.append [.i .i64] (List.append (grs 48000 96) (List.append [.i .i64] (grs 54000 96)))))))), (9, .v (.one (.ptr 9 0))), (4, .v (.one (.ptr 4 0))), (18, .v (.one (.b))), (64, .v (.one (.kn .i64 1)))], [(48000, .jd 33 33 1 0 2), (42000, .jd 33 33 1 0 2), (54000, .grp 33 14 true), (9, .cells (List.append [.i .i64] (grs 8000009 96))), (4, .cellsG [.i .i64] 14 96), (8000009, .grp 33 14 false)]⟩, [⟨some 4, [(42000, 42000), (48000, 48000), (54000, 54000), (9, 9), (4, 4), (8000009, 8000009)], ⟨101, [(63, .v (.agg (List.append [.i .i64] (List.append (grs 42000 96) (List.append [.i .i64] (List.append (grs 48000 96) (List.append [.i .i64] (grs 54000 96)))))))), (9, .v (.one (.ptr 9 0))), (4, .v (.one (.ptr 4 0))), (18, .v (.one (.b))), (64, .v (.one (.kn .i64 1)))], [(42000, .jd 33 33 1 0 2), (48000, .jd 33 33 1 0 2), (54000, .grp 33 14 true), (9, .cells (List.append [.i .i64] (grs 8000009 96))), (4, .cellsG [.i .i64] 14 96), (8000009, .grp 33 14 false)]⟩⟩], []⟩
abbrev ty10_ : Type := (Int × (Int × (Int × (Int × (Bool × ((List (Nat × Nat)) × ((List (Nat × Nat)) × (Nat × ((List (List TDue)) × (Int × (Int × ((List (List TDue)) × (Nat × ((List (List TDue)) × Unit))))))))))))))
abbrev ty11_ : Type := (Int × (Int × (Int × (Bool × ((List (Nat × Nat)) × ((List (Nat × Nat)) × (Nat × ((List (List TDue)) × (Int × (Int × ((List (List TDue)) × (Nat × ((List (List TDue)) × Unit)))))))))))))
def wheelOwn_step2004_15 : ty10_ -> Tr (ty10_ ⊕ ty11_) :=
 fun (a0, a1, a2, a3, a4, a5, a6, a7, a8, a9, a10, a11, a12, a13, _) =>
 .ite (decide (a0 < 96)) (
 .grd (decide (0 <= a0 /\ a0 < (↑(96 : Nat) : Int))) (
 .opt (a5[Int.toNat a0]?) (fun r0 =>
 .grd (decide ((↑r0.snd : Int) = (↑r0.snd : Int))) (
 .grd (decide (obB (sameN (14 : Nat) (95 : Nat) a11) = (0 : Nat))) (
 .opt ((wheelOwn_loop2004_19 (0, ((0 : Nat), (r0.snd, (a1, (a2, (a3, (a4, (a0, ((↑r0.snd : Int), (r0.fst, (r0.snd, ((Int.toNat a0, some (hkey (48000 : Nat), (1 : Nat))).fst, (a5, (a6, (a7, (a8, (a9, (a10, (a11, (a12, (a13, ()))))))))))))))))))))))) (fun r1 =>
 .grd (decide (obB (sameN (14 : Nat) (95 : Nat) r1.2.2.2.2.2.2.2.2.2.2.2.1) = (0 : Nat))) (
 .ret (Sum.inl (wW .i64 (r1.2.2.2.2.1 + 1), (r1.1, (r1.2.1, (r1.2.2.1, (r1.2.2.2.1, (r1.2.2.2.2.2.1, (r1.2.2.2.2.2.2.1, (r1.2.2.2.2.2.2.2.1, (r1.2.2.2.2.2.2.2.2.1, (r1.2.2.2.2.2.2.2.2.2.1, (r1.2.2.2.2.2.2.2.2.2.2.1, (r1.2.2.2.2.2.2.2.2.2.2.2.1, (r1.2.2.2.2.2.2.2.2.2.2.2.2.1, (r1.2.2.2.2.2.2.2.2.2.2.2.2.2.1, ())))))))))))))))))))))) (
 .grd (decide (obB (sameN (14 : Nat) (95 : Nat) a11) = (0 : Nat))) (
 .ret (Sum.inr (a1, (a2, (a3, (a4, (a6, (a5, (a7, (a8, (a9, (a10, (a11, (a12, (a13, ()))))))))))))))))
def wheelOwn_loop2004_15 (x : ty10_) : Option ty11_ := loopO 20040015 (fun x => (wheelOwn_step2004_15 x).eval) 18446744073709551616 x
def wheelOwn_L1004_19 : LS := ⟨19, [(4042000, 4042000), (42000, 42000), (48000, 48000), (54000, 54000), (9, 9), (4, 4), (8000009, 8000009)], ⟨101, [(78, .v (.one (.i .i64))), (22, .v (.one (.sub 4042000 2))), (68, .v (.agg (List.append [] (grs 42000 96)))), (63, .v (.agg (List.append [.i .i64] (List.append (grs 42000 96) (List.append [.i .i64] (List.append (grs 48000 96) (List.append [.i .i64] (grs 54000 96)))))))), (9, .v (.one (.ptr 9 0))), (4, .v (.one (.ptr 4 0))), (18, .v (.one (.b))), (64, .v (.one (.kn .i64 0))), (69, .v (.one (.i .i64))), (77, .v (.one (.i .i64)))], [(4042000, .jk 33 2), (42000, .jdH 33 33 1 0 2 4042000), (48000, .grp 33 14 true), (54000, .grp 33 14 true), (9, .cells (List.append [.i .i64] (grs 8000009 96))), (4, .cellsG [.i .i64] 14 96), (8000009, .grp 33 14 false)]⟩, [⟨some 6, [(42000, 42000), (48000, 48000), (54000, 54000), (9, 9), (4, 4), (8000009, 8000009)], ⟨101, [(68, .v (.agg (List.append [] (grs 42000 96)))), (63, .v (.agg (List.append [.i .i64] (List.append (grs 42000 96) (List.append [.i .i64] (List.append (grs 48000 96) (List.append [.i .i64] (grs 54000 96)))))))), (9, .v (.one (.ptr 9 0))), (4, .v (.one (.ptr 4 0))), (18, .v (.one (.b))), (64, .v (.one (.kn .i64 0))), (69, .v (.one (.i .i64)))], [(42000, .jd 33 33 1 0 2), (48000, .grp 33 14 true), (54000, .grp 33 14 true), (9, .cells (List.append [.i .i64] (grs 8000009 96))), (4, .cellsG [.i .i64] 14 96), (8000009, .grp 33 14 false)]⟩⟩], []⟩
abbrev ty12_ : Type := (Int × (Nat × (Nat × (Int × (Int × (Int × (Bool × (Int × (Int × (Nat × (Nat × (Nat × ((List (Nat × Nat)) × (Nat × ((List (List TDue)) × (Nat × ((List (List TDue)) × (Int × (Int × ((List (List TDue)) × (Nat × ((List (List TDue)) × Unit))))))))))))))))))))))
abbrev ty13_ : Type := (Int × (Int × (Int × (Bool × (Int × ((List (Nat × Nat)) × (Nat × ((List (List TDue)) × (Nat × ((List (List TDue)) × (Int × (Int × ((List (List TDue)) × (Nat × ((List (List TDue)) × Unit)))))))))))))))
def wheelOwn_step1004_19 : ty12_ -> Tr (ty12_ ⊕ ty13_) :=
 fun (a0, a1, a2, a3, a4, a5, a6, a7, a8, a9, a10, a11, a12, a13, a14, a15, a16, a17, a18, a19, a20, a21, _) =>
 .ite (decide (a0 < a8)) (
 .grd (decide (0 <= a0 /\ a0 < (↑a2 : Int))) (
 .grd (decide (a1 + Int.toNat a0 < a10)) (
 .grd (decide (0 <= a0 /\ a0 < (↑a2 : Int))) (
 .grd (decide (a1 + Int.toNat a0 < a10)) (
 .grd (decide (obB (sameN (14 : Nat) (95 : Nat) a19) = (0 : Nat))) (
 .ret (Sum.inl (wW .i64 (a0 + 1), (a1, (a2, (a3, (a4, (a5, (a6, (a7, (a8, (a9, (a10, ((a11, some ((4042000 : Nat), vk (4042000 : Nat))).fst, (a12, (a13, (a14, (a15, (a16, (a17, (a18, (a19, (a20, (a21, ()))))))))))))))))))))))))))))) (
 .grd (decide (obB (sameN (14 : Nat) (95 : Nat) a19) = (0 : Nat))) (
 .ret (Sum.inr (a3, (a4, (a5, (a6, (a7, (List.set a12 a11 (a9, a10), (a13, (a14, (a15, (a16, (a17, (a18, (a19, (a20, (a21, ()))))))))))))))))))
def wheelOwn_loop1004_19 (x : ty12_) : Option ty13_ := loopO 10040019 (fun x => (wheelOwn_step1004_19 x).eval) 18446744073709551616 x
def wheelOwn_L1004_15 : LS := ⟨15, [(42000, 42000), (48000, 48000), (54000, 54000), (9, 9), (4, 4), (8000009, 8000009)], ⟨101, [(69, .v (.one (.i .i64))), (68, .v (.agg (List.append [] (grs 42000 96)))), (63, .v (.agg (List.append [.i .i64] (List.append (grs 42000 96) (List.append [.i .i64] (List.append (grs 48000 96) (List.append [.i .i64] (grs 54000 96)))))))), (9, .v (.one (.ptr 9 0))), (4, .v (.one (.ptr 4 0))), (18, .v (.one (.b))), (64, .v (.one (.kn .i64 0)))], [(42000, .jd 33 33 1 0 2), (48000, .grp 33 14 true), (54000, .grp 33 14 true), (9, .cells (List.append [.i .i64] (grs 8000009 96))), (4, .cellsG [.i .i64] 14 96), (8000009, .grp 33 14 false)]⟩, [⟨some 4, [(42000, 42000), (48000, 48000), (54000, 54000), (9, 9), (4, 4), (8000009, 8000009)], ⟨101, [(63, .v (.agg (List.append [.i .i64] (List.append (grs 42000 96) (List.append [.i .i64] (List.append (grs 48000 96) (List.append [.i .i64] (grs 54000 96)))))))), (9, .v (.one (.ptr 9 0))), (4, .v (.one (.ptr 4 0))), (18, .v (.one (.b))), (64, .v (.one (.kn .i64 0)))], [(42000, .jd 33 33 1 0 2), (48000, .grp 33 14 true), (54000, .grp 33 14 true), (9, .cells (List.append [.i .i64] (grs 8000009 96))), (4, .cellsG [.i .i64] 14 96), (8000009, .grp 33 14 false)]⟩⟩], []⟩
abbrev ty14_ : Type := (Int × (Int × (Int × (Int × (Bool × ((List (Nat × Nat)) × (Nat × ((List (List TDue)) × (Nat × ((List (List TDue)) × (Int × (Int × ((List (List TDue)) × (Nat × ((List (List TDue)) × Unit)))))))))))))))
abbrev ty15_ : Type := (Int × (Int × (Int × (Bool × ((List (Nat × Nat)) × (Nat × ((List (List TDue)) × (Nat × ((List (List TDue)) × (Int × (Int × ((List (List TDue)) × (Nat × ((List (List TDue)) × Unit))))))))))))))
def wheelOwn_step1004_15 : ty14_ -> Tr (ty14_ ⊕ ty15_) :=
 fun (a0, a1, a2, a3, a4, a5, a6, a7, a8, a9, a10, a11, a12, a13, a14, _) =>
 .ite (decide (a0 < 96)) (
 .grd (decide (0 <= a0 /\ a0 < (↑(96 : Nat) : Int))) (
 .opt (a5[Int.toNat a0]?) (fun r0 =>
 .grd (decide ((↑r0.snd : Int) = (↑r0.snd : Int))) (
 .grd (decide (obB (sameN (14 : Nat) (95 : Nat) a12) = (0 : Nat))) (
 .opt ((wheelOwn_loop1004_19 (0, ((0 : Nat), (r0.snd, (a1, (a2, (a3, (a4, (a0, ((↑r0.snd : Int), (r0.fst, (r0.snd, ((Int.toNat a0, some (hkey (42000 : Nat), (1 : Nat))).fst, (a5, (a6, (a7, (a8, (a9, (a10, (a11, (a12, (a13, (a14, ())))))))))))))))))))))))) (fun r1 =>
 .grd (decide (obB (sameN (14 : Nat) (95 : Nat) r1.2.2.2.2.2.2.2.2.2.2.2.2.1) = (0 : Nat))) (
 .ret (Sum.inl (wW .i64 (r1.2.2.2.2.1 + 1), (r1.1, (r1.2.1, (r1.2.2.1, (r1.2.2.2.1, (r1.2.2.2.2.2.1, (r1.2.2.2.2.2.2.1, (r1.2.2.2.2.2.2.2.1, (r1.2.2.2.2.2.2.2.2.1, (r1.2.2.2.2.2.2.2.2.2.1, (r1.2.2.2.2.2.2.2.2.2.2.1, (r1.2.2.2.2.2.2.2.2.2.2.2.1, (r1.2.2.2.2.2.2.2.2.2.2.2.2.1, (r1.2.2.2.2.2.2.2.2.2.2.2.2.2.1, (r1.2.2.2.2.2.2.2.2.2.2.2.2.2.2.1, ()))))))))))))))))))))))) (
 .grd (decide (obB (sameN (14 : Nat) (95 : Nat) a12) = (0 : Nat))) (
 .ret (Sum.inr (a1, (a2, (a3, (a4, (a5, (a6, (a7, (a8, (a9, (a10, (a11, (a12, (a13, (a14, ())))))))))))))))))
def wheelOwn_loop1004_15 (x : ty14_) : Option ty15_ := loopO 10040015 (fun x => (wheelOwn_step1004_15 x).eval) 18446744073709551616 x
def wheelOwn_L4_3 : LS := ⟨3, [(9, 9), (4, 4), (8000009, 8000009)], ⟨101, [(25, .v (.one (.i .i64))), (9, .v (.one (.ptr 9 0))), (4, .v (.one (.ptr 4 0))), (3, .v (.one (.i .i64))), (1, .v (.one (.i .i64))), (2, .v (.one (.i .i64)))], [(9, .cells (List.append [.i .i64] (grs 8000009 96))), (4, .cellsG [.i .i64] 14 96), (8000009, .grp 33 14 false)]⟩, [⟨some 0, [(9, 9), (4, 4), (8000009, 8000009)], ⟨101, [(9, .v (.one (.ptr 9 0))), (4, .v (.one (.ptr 4 0))), (3, .v (.one (.i .i64))), (1, .v (.one (.i .i64))), (2, .v (.one (.i .i64)))], [(9, .cells (List.append [.i .i64] (grs 8000009 96))), (4, .cellsG [.i .i64] 14 96), (8000009, .grp 33 14 false)]⟩⟩], [(200000009, 33, 14)]⟩
abbrev ty16_ : Type := (Int × (Int × (Int × (Int × (Int × (Int × ((List (List TDue)) × (Nat × ((List (List TDue)) × Unit)))))))))
abbrev ty17_ : Type := (Int × (Int × (Int × (Int × (Int × ((List (List TDue)) × (Nat × ((List (List TDue)) × Unit))))))))
def wheelOwn_step4_3 : ty16_ -> Tr (ty16_ ⊕ ty17_) :=
 fun (a0, a1, a2, a3, a4, a5, a6, a7, a8, _) =>
 .ite (decide (a0 < 96)) (
 .grd (decide (0 <= a0 /\ a0 < (↑(96 : Nat) : Int))) (
 .grd (sameN (14 : Nat) (95 : Nat) a6) (
 .opt (a6[Int.toNat a0]?) (fun r0 =>
 .grd (decide (((0 : Nat) + r0.length) * (16 : Nat) <= (140737488355328 : Nat) /\ (0 : Nat) + r0.length <= (9223372036854775807 : Nat))) (
 .grd (decide (0 <= a0 /\ a0 < (↑(96 : Nat) : Int))) (
 .grd (decide (Int.toNat a0 = a7)) (
 .grd (decide (obB (sameN (14 : Nat) (95 : Nat) a6) = (0 : Nat))) (
 .ret (Sum.inl (wW .i64 (a0 + 1), (a1, (a2, (a3, (a4, (a5, (a6, (a7 + (1 : Nat), (List.set a8 (Int.toNat a0) r0, ())))))))))))))))))) (
 .grd (decide (obB (sameN (14 : Nat) (95 : Nat) a6) = (0 : Nat))) (
 .ret (Sum.inr (a1, (a2, (a3, (a4, (a5, (a6, (a7, (a8, ())))))))))))
def wheelOwn_loop4_3 (x : ty16_) : Option ty17_ := loopO 40003 (fun x => (wheelOwn_step4_3 x).eval) 18446744073709551616 x
def wheelOwn_ap : List VP1 := [.aggG [.i .i64] 14 96, .one (.i .i64), .one (.i .i64), .one (.i .i64)]
def wheelOwn_tree : (Int × ((List (List TDue)) × (Int × (Int × (Int × Unit))))) -> Tr Prop :=
 fun (a0, a1, a2, a3, a4, _) =>
 .grd (decide (obB (sameN (14 : Nat) (95 : Nat) a1) = (0 : Nat))) (
 .opt ((wheelOwn_loop4_3 (0, (a4, (a2, (a3, (a0, (a0, (a1, ((0 : Nat), (gdN (14 : Nat) (96 : Nat) a1, ()))))))))))) (fun r0 =>
 .grd (decide (obB (sameN (14 : Nat) (95 : Nat) r0.2.2.2.2.2.1) = (0 : Nat))) (
 .opt ((wSetO_fn (r0.2.2.2.2.1, (r0.2.2.2.2.2.1, (r0.2.1, (r0.2.2.1, ())))))) (fun r1 =>
 .grd (decide (obB (sameN (14 : Nat) (95 : Nat) r0.2.2.2.2.2.1) = (0 : Nat))) (
 .opt ((wStopO_fn (r0.2.2.2.2.1, (r0.2.2.2.2.2.1, (r0.2.1, ()))))) (fun r2 =>
 .grd (decide (obB (sameN (14 : Nat) (95 : Nat) r0.2.2.2.2.2.1) = (0 : Nat))) (
 .opt ((wTickO_fn (r0.2.2.2.2.1, (r0.2.2.2.2.2.1, (r0.1, ()))))) (fun r3 =>
 .grd (decide (obB (sameN (14 : Nat) (95 : Nat) r0.2.2.2.2.2.1) = (0 : Nat))) (
 .grd (decide (obB (sameN (14 : Nat) (95 : Nat) r0.2.2.2.2.2.2.2.1) = (0 : Nat))) (
 .opt ((rSame_fn (r0.2.2.2.2.1, (r0.2.2.2.2.2.1, (r0.2.2.2.1, (r0.2.2.2.2.2.2.2.1, ())))))) (fun r4 =>
 .ite (true) (
 .grd (decide (r1.2.2.1 = List.length r1.2.2.2.1)) (
 .ret (AllL (List.length r1.2.2.2.1) fun (w5 : List (Nat × Nat)) =>
 .grd (decide (obB (sameN (14 : Nat) (95 : Nat) r0.2.2.2.2.2.1) = (0 : Nat))) (
 .opt ((wheelOwn_loop1004_15 (0, (r1.1, (r2.1, (r3.1, (r4.1, (w5, (r2.2.2.1, (r2.2.2.2.1, (r3.2.2.1, (r3.2.2.2.1, (r0.2.2.2.1, (r0.2.2.2.2.1, (r0.2.2.2.2.2.1, (r0.2.2.2.2.2.2.1, (r0.2.2.2.2.2.2.2.1, ()))))))))))))))))) (fun r6 =>
 .ite (true) (
 .grd (decide (r6.2.2.2.2.2.1 = List.length r6.2.2.2.2.2.2.1)) (
 .ret (AllL (List.length r6.2.2.2.2.2.2.1) fun (w7 : List (Nat × Nat)) =>
 .grd (decide (obB (sameN (14 : Nat) (95 : Nat) r6.2.2.2.2.2.2.2.2.2.2.2.1) = (0 : Nat))) (
 .opt ((wheelOwn_loop2004_15 (0, (r6.1, (r6.2.1, (r6.2.2.1, (r6.2.2.2.1, (w7, (r6.2.2.2.2.1, (r6.2.2.2.2.2.2.2.1, (r6.2.2.2.2.2.2.2.2.1, (r6.2.2.2.2.2.2.2.2.2.1, (r6.2.2.2.2.2.2.2.2.2.2.1, (r6.2.2.2.2.2.2.2.2.2.2.2.1, (r6.2.2.2.2.2.2.2.2.2.2.2.2.1, (r6.2.2.2.2.2.2.2.2.2.2.2.2.2.1, ())))))))))))))))) (fun r8 =>
 .ite (true) (
 .grd (decide (r8.2.2.2.2.2.2.1 = List.length r8.2.2.2.2.2.2.2.1)) (
 .ret (AllL (List.length r8.2.2.2.2.2.2.2.1) fun (w9 : List (Nat × Nat)) =>
 .grd (decide (obB (sameN (14 : Nat) (95 : Nat) r8.2.2.2.2.2.2.2.2.2.2.1) = (0 : Nat))) (
 .opt ((wheelOwn_loop3004_15 (0, (r8.1, (r8.2.1, (r8.2.2.1, (r8.2.2.2.1, (w9, (r8.2.2.2.2.1, (r8.2.2.2.2.2.1, (r8.2.2.2.2.2.2.2.2.1, (r8.2.2.2.2.2.2.2.2.2.1, (r8.2.2.2.2.2.2.2.2.2.2.1, (r8.2.2.2.2.2.2.2.2.2.2.2.1, (r8.2.2.2.2.2.2.2.2.2.2.2.2.1, ()))))))))))))))) (fun r10 =>
 .ite (false) (
 .fail 3) (
 .opt ((wLives_fn ())) (fun r11 =>
 .ite (r11.1) (
 .ite (r10.2.2.2.1) (
 .grd (decide (obB (sameN (14 : Nat) (95 : Nat) r10.2.2.2.2.2.2.2.2.2.1) = (0 : Nat))) (
 .grd (decide (obB (sameN (14 : Nat) (95 : Nat) r10.2.2.2.2.2.2.2.2.2.2.2.1) = (0 : Nat))) (
 .opt ((rSame_fn (r10.2.2.2.2.2.2.2.2.1, (r10.2.2.2.2.2.2.2.2.2.1, (r10.2.2.2.2.2.2.2.1, (r10.2.2.2.2.2.2.2.2.2.2.2.1, ())))))) (fun r12 =>
 .ret (r12.1 = true))))) (
 .ret (false = true))) (
 .ret (false = true))))))))) (
 .opt ((wLives_fn ())) (fun r9 =>
 .ite (r9.1) (
 .ite (r8.2.2.2.1) (
 .grd (decide (obB (sameN (14 : Nat) (95 : Nat) r8.2.2.2.2.2.2.2.2.2.2.1) = (0 : Nat))) (
 .grd (decide (obB (sameN (14 : Nat) (95 : Nat) r8.2.2.2.2.2.2.2.2.2.2.2.2.1) = (0 : Nat))) (
 .opt ((rSame_fn (r8.2.2.2.2.2.2.2.2.2.1, (r8.2.2.2.2.2.2.2.2.2.2.1, (r8.2.2.2.2.2.2.2.2.1, (r8.2.2.2.2.2.2.2.2.2.2.2.2.1, ())))))) (fun r10 =>
 .ret (r10.1 = true))))) (
 .ret (false = true))) (
 .ret (false = true))))))))) (
 .opt ((wLives_fn ())) (fun r7 =>
 .ite (r7.1) (
 .ite (r6.2.2.2.1) (
 .grd (decide (obB (sameN (14 : Nat) (95 : Nat) r6.2.2.2.2.2.2.2.2.2.2.2.1) = (0 : Nat))) (
 .grd (decide (obB (sameN (14 : Nat) (95 : Nat) r6.2.2.2.2.2.2.2.2.2.2.2.2.2.1) = (0 : Nat))) (
 .opt ((rSame_fn (r6.2.2.2.2.2.2.2.2.2.2.1, (r6.2.2.2.2.2.2.2.2.2.2.2.1, (r6.2.2.2.2.2.2.2.2.2.1, (r6.2.2.2.2.2.2.2.2.2.2.2.2.2.1, ())))))) (fun r8 =>
 .ret (r8.1 = true))))) (
 .ret (false = true))) (
 .ret (false = true))))))))) (
 .opt ((wLives_fn ())) (fun r5 =>
 .ite (r5.1) (
 .ite (r4.1) (
 .grd (decide (obB (sameN (14 : Nat) (95 : Nat) r0.2.2.2.2.2.1) = (0 : Nat))) (
 .grd (decide (obB (sameN (14 : Nat) (95 : Nat) r0.2.2.2.2.2.2.2.1) = (0 : Nat))) (
 .opt ((rSame_fn (r0.2.2.2.2.1, (r0.2.2.2.2.2.1, (r0.2.2.2.1, (r0.2.2.2.2.2.2.2.1, ())))))) (fun r6 =>
 .ret (r6.1 = true))))) (
 .ret (false = true))) (
 .ret (false = true)))))))))))))))
noncomputable def gm18 : List (PF Go.Proofs.Try.prog) := gm4 ++ [GS.pf delDue, FS.pf betw, FS.pf rSame, FS.pf rListOf, FS.pf rAllDue, FS.pf rWheelOf, FS.pf rRight, FS.pf wLives, GS.pf wSetO, GS.pf wStopO, GS.pf wTickO]
theorem wheelOwn_eq (x : (Int × ((List (List TDue)) × (Int × (Int × (Int × Unit)))))) : lawJ Try.prog cod gm18 [(3004, wheelOwn_L3004_19), (3004, wheelOwn_L3004_15), (2004, wheelOwn_L2004_19), (2004, wheelOwn_L2004_15), (1004, wheelOwn_L1004_19), (1004, wheelOwn_L1004_15), (4, wheelOwn_L4_3)] [(14, 20)] [12] 30 4 wheelOwn_ap x = wheelOwn_tree x := by kernel_rfl
noncomputable def wheelOwn : FS Try.prog := jFS 4 wheelOwn_ap wheelOwn_tree fun x h => lawJ_sound (cod := cod) (Γ := gm18) (Λs := [(3004, wheelOwn_L3004_19), (3004, wheelOwn_L3004_15), (2004, wheelOwn_L2004_19), (2004, wheelOwn_L2004_15), (1004, wheelOwn_L1004_19), (1004, wheelOwn_L1004_15), (4, wheelOwn_L4_3)]) (opn := [(14, 20)]) (un := [12]) (n := 30) (wheelOwn_eq x ▸ h)
end Go.Proofs.Ytnhiilbmgkbbaaa.X
namespace Go.Proofs.Ytnhiilbmgkbbaaa.Abs
set_option linter.unusedVariables false
theorem loopO_succ {A B : Type} (tag : Nat) (f : A -> Option (A ⊕ B)) (n : Nat) (a : A) : loopO tag f (n + 1) a = match f a with | none => none | some (.inl a') => loopO tag f n a' | some (.inr b) => some b := rfl
theorem loopO_out {A B : Type} {tag : Nat} {f : A -> Option (A ⊕ B)} {n : Nat} {a : A} {b : B} (h : f a = some (.inr b)) : loopO tag f (n + 1) a = some b := by rw [loopO_succ, h]
theorem loopO_in {A B : Type} {tag : Nat} {f : A -> Option (A ⊕ B)} {n : Nat} {a a' : A} (h : f a = some (.inl a')) : loopO tag f (n + 1) a = loopO tag f n a' := by rw [loopO_succ, h]

end Go.Proofs.Ytnhiilbmgkbbaaa.Abs
namespace Go.Proofs.Ytnhiilbmgkbbaaa.Bits
open Go
@[go_sem] theorem signed_u8 : IntKind.u8.signed = false := rfl
@[go_sem] theorem signed_u16 : IntKind.u16.signed = false := rfl
@[go_sem] theorem signed_u32 : IntKind.u32.signed = false := rfl
@[go_sem] theorem signed_u64 : IntKind.u64.signed = false := rfl
@[go_sem] theorem signed_i64 : IntKind.i64.signed = true := rfl

theorem ofInt_nat (w : Nat) (n : Nat) (h : n < 2 ^ w) : (BitVec.ofInt w (n : Int)).toNat = n := by
 rw [BitVec.ofInt_natCast, BitVec.toNat_ofNat]; exact Nat.mod_eq_of_lt h

theorem wrap_nat (k : IntKind) (n : Nat) (h : n < 2 ^ k.bits) (hs : k.signed = true -> n < 2 ^ (k.bits - 1)) : k.wrap (n : Int) = (n : Int) := by
 have hb : (2 : Int) ^ k.bits = ((2 ^ k.bits : Nat) : Int) := by norm_cast
 have h2 : (2 : Nat) ^ k.bits = 2 ^ (k.bits - 1) + 2 ^ (k.bits - 1) := by cases k <;> rfl
 have hm : n % 2 ^ k.bits = n := Nat.mod_eq_of_lt h
 unfold IntKind.wrap
 by_cases hk : k.signed = true
 . have := hs hk
   cases k <;> simp_all [IntKind.bits, IntKind.signed] <;> omega
 . cases k <;> simp_all [IntKind.bits, IntKind.signed] <;> omega

theorem bits_and_nat (k : IntKind) (a b : Nat) (ha : a < 2 ^ k.bits) (hb : b < 2 ^ k.bits) (hs : k.signed = true -> a < 2 ^ (k.bits - 1)) :
  bits .and k (a : Int) (b : Int) = ((a &&& b : Nat) : Int) := by
 have h1 := ofInt_nat k.bits a ha
 have h2 := ofInt_nat k.bits b hb
 have h3 : a &&& b <= a := Nat.and_le_left
 show k.wrap ((BitVec.ofInt k.bits (a : Int) &&& BitVec.ofInt k.bits (b : Int)).toNat : Int) = _
 rw [BitVec.toNat_and, h1, h2]
 exact wrap_nat k _ (by omega) (fun h => by have := hs h; omega)

theorem bits_xor_nat (k : IntKind) (a b : Nat) (ha : a < 2 ^ k.bits) (hb : b < 2 ^ k.bits) (hs : k.signed = true -> a < 2 ^ (k.bits - 1) /\ b < 2 ^ (k.bits - 1)) :
  bits .xor k (a : Int) (b : Int) = ((a ^^^ b : Nat) : Int) := by
 have h1 := ofInt_nat k.bits a ha
 have h2 := ofInt_nat k.bits b hb
 show k.wrap ((BitVec.ofInt k.bits (a : Int) ^^^ BitVec.ofInt k.bits (b : Int)).toNat : Int) = _
 rw [BitVec.toNat_xor, h1, h2]
 exact wrap_nat k _ (Nat.xor_lt_two_pow ha hb) (fun h => Nat.xor_lt_two_pow (hs h).1 (hs h).2)

theorem bits_and_mask (k : IntKind) (j : Nat) (x : Int) (h0 : 0 <= x) (h1 : x < 2 ^ k.bits) (hj : j < k.bits) (hs : k.signed = true -> x < 2 ^ (k.bits - 1)) :
  bits .and k x (2 ^ j - 1) = x % 2 ^ j := by
 obtain ⟨n, rfl⟩ := Int.eq_ofNat_of_zero_le h0
 have e : ((2 : Int) ^ j - 1) = ((2 ^ j - 1 : Nat) : Int) := by
  rw [Int.ofNat_sub (Nat.one_le_two_pow)]; norm_cast
 have hlt : (2 : Nat) ^ j < 2 ^ k.bits := Nat.pow_lt_pow_right (by omega) hj
 have h1' : n < 2 ^ k.bits := by exact_mod_cast h1
 rw [e, bits_and_nat k n _ h1' (by omega) (fun h => by exact_mod_cast hs h), Nat.and_two_pow_sub_one_eq_mod]
 norm_cast

end Go.Proofs.Ytnhiilbmgkbbaaa.Bits
namespace Go.Proofs.Ytnhiilbmgkbbaaa.X
open Go Go.RowKit Go.Proofs.Ytnhiilbmgkbbaaa.Abs Go.Proofs.Ytnhiilbmgkbbaaa.Bits
set_option linter.unusedVariables false
set_option linter.unusedSimpArgs false
theorem wrap8u (x : Int) : IntKind.u8.wrap x = x % 256 := by
 simp only [IntKind.wrap, IntKind.bits, IntKind.signed]
 simp
theorem wrap64u (x : Int) : IntKind.u64.wrap x = x % 18446744073709551616 := by
 simp only [IntKind.wrap, IntKind.bits, IntKind.signed]
 simp
theorem fdiv_pos (x : Int) {y : Int} (h : 0 <= y) : x.fdiv y = x / y := Int.fdiv_eq_ediv_of_nonneg _ h
theorem fdiv8 (x : Int) : x.fdiv ((2 : Int) ^ (8 : Nat)) = x / 256 := fdiv_pos x (by decide)
theorem fdiv16 (x : Int) : x.fdiv ((2 : Int) ^ (16 : Nat)) = x / 65536 := fdiv_pos x (by decide)
def byteOf (x : Int) : UInt8 := UInt8.ofNat (x % 256).toNat
def wd (x : Int) : List UInt8 := [byteOf (x / 256), byteOf x]
@[simp] theorem wd_len (x : Int) : (wd x).length = 2 := rfl
def lg (x : Int) : List UInt8 := wd (x / 65536) ++ wd x
@[simp] theorem lg_len (x : Int) : (lg x).length = 4 := rfl
def ws : List UInt8 -> Nat
 | [] => 0
 | [a] => a.toNat * 256
 | a :: b :: r => a.toNat * 256 + b.toNat + ws r
theorem ev_opt {α β : Type} {o : Option β} {k : β -> Tr α} {b : β} {r : Option α} (h : o = some b) (h2 : (k b).eval = r) : (Tr.opt o k).eval = r := by rw [h]; exact h2
theorem ev_t {α : Type} {c : Bool} {t e : Tr α} {r : Option α} (h : c = true) (h2 : t.eval = r) : (Tr.ite c t e).eval = r := by rw [h]; exact h2
theorem ev_f {α : Type} {c : Bool} {t e : Tr α} {r : Option α} (h : c = false) (h2 : e.eval = r) : (Tr.ite c t e).eval = r := by rw [h]; exact h2
theorem ev_g {α : Type} {c : Bool} {t : Tr α} {r : Option α} (h : c = true) (h2 : t.eval = r) : (Tr.grd c t).eval = r := by rw [h]; exact h2
theorem ev_r {α : Type} {a b : α} (h : a = b) : (Tr.ret a).eval = some b := by rw [h]; rfl

def hit {T : Type} (p : T -> Bool) : List T -> Option (Nat × T)
 | [] => none
 | x :: r => match p x with
  | true => some (0, x)
  | false => (hit p r).map fun q => (q.1 + 1, q.2)
theorem hit_at {T : Type} {p : T -> Bool} : ∀ {l : List T} {i : Nat} {x : T}, hit p l = some (i, x) -> l[i]? = some x /\ p x = true
 | [], i, x, h => by cases h
 | y :: r, i, x, h => by
  simp only [hit] at h
  split at h
  . rename_i e; cases h; exact ⟨rfl, e⟩
  . obtain ⟨q, hq, e⟩ := Option.map_eq_some_iff.1 h
    cases e
    obtain ⟨h1, h2⟩ := hit_at (x := q.2) (i := q.1) hq
    exact ⟨by simpa using h1, h2⟩
theorem hit_none {T : Type} {p : T -> Bool} : ∀ {l : List T}, hit p l = none ↔ ∀ x ∈ l, p x = false
 | [] => by simp [hit]
 | y :: r => by
  simp only [hit, List.mem_cons, forall_eq_or_imp]
  cases e : p y with
  | true => simp
  | false => simp [hit_none (l := r)]
def fst {T : Type} (p : T -> Bool) (l : List T) : Option T := (hit p l).map (·.2)
theorem loop_hit {A B T : Type} {tag : Nat} {f : A -> Option (A ⊕ B)} {l : List T} (st : Nat -> A) (p : T -> Bool) (out : Option (Nat × T) -> B)
  (h1 : ∀ (i : Nat) (x : T), l[i]? = some x -> f (st i) = match p x with | true => some (.inr (out (some (i, x)))) | false => some (.inl (st (i + 1))))
  (h2 : f (st l.length) = some (.inr (out none))) (n : Nat) (hn : l.length < n) : loopO tag f n (st 0) = some (out (hit p l)) := by
 have key : ∀ (r : List T) (k n : Nat), l.drop k = r -> k <= l.length -> r.length < n -> loopO tag f n (st k) = some (out ((hit p r).map fun q => (q.1 + k, q.2))) := by
  intro r
  induction r with
  | nil =>
   intro k n hk hle hn
   obtain ⟨n, rfl⟩ : ∃ m, n = m + 1 := ⟨n - 1, by simp at hn; omega⟩
   have : k = l.length := by have := congrArg List.length hk; simp at this; omega
   subst this
   exact loopO_out h2
  | cons x r ih =>
   intro k n hk hle hn
   obtain ⟨n, rfl⟩ : ∃ m, n = m + 1 := ⟨n - 1, by simp at hn; omega⟩
   have hx : l[k]? = some x := by have := congrArg (·[0]?) hk; simpa using this
   have hk2 : l.drop (k + 1) = r := by rw [<- List.drop_drop, hk]; rfl
   have := h1 k x hx
   simp only [hit]
   cases hp : p x with
   | true => rw [hp] at this; rw [loopO_out this]; simp
   | false =>
    rw [hp] at this
    have hlt := (List.getElem?_eq_some_iff.1 hx).1
    rw [loopO_in this, ih (k + 1) n hk2 (by omega) (by simp at hn; omega)]
    cases hit p r with
    | none => rfl
    | some q => simp only [Option.map_some]; rw [show q.1 + (k + 1) = q.1 + 1 + k by omega]
 have := key l 0 n rfl (by omega) hn
 rw [this]
 cases hit p l <;> rfl
theorem loop_fold {A B S T : Type} {tag : Nat} {f : A -> Option (A ⊕ B)} {l : List T} (st : Nat -> S -> A) (I : Nat -> S -> Prop) (g : S -> T -> S) (out : S -> B)
  (h1 : ∀ (i : Nat) (x : T) (s : S), l[i]? = some x -> I i s -> f (st i s) = some (.inl (st (i + 1) (g s x))) /\ I (i + 1) (g s x))
  (h2 : ∀ s, I l.length s -> f (st l.length s) = some (.inr (out s))) (n : Nat) (s : S) (hs : I 0 s) (hn : l.length < n) : loopO tag f n (st 0 s) = some (out (l.foldl g s)) /\ I l.length (l.foldl g s) := by
 have key : ∀ (r : List T) (k n : Nat) (s : S), l.drop k = r -> k <= l.length -> r.length < n -> I k s -> loopO tag f n (st k s) = some (out (r.foldl g s)) /\ I l.length (r.foldl g s) := by
  intro r
  induction r with
  | nil =>
   intro k n s hk hle hn hi
   obtain ⟨n, rfl⟩ : ∃ m, n = m + 1 := ⟨n - 1, by simp at hn; omega⟩
   have : k = l.length := by have := congrArg List.length hk; simp at this; omega
   subst this
   exact ⟨loopO_out (h2 s hi), hi⟩
  | cons x r ih =>
   intro k n s hk hle hn hi
   obtain ⟨n, rfl⟩ : ∃ m, n = m + 1 := ⟨n - 1, by simp at hn; omega⟩
   have hx : l[k]? = some x := by have := congrArg (·[0]?) hk; simpa using this
   have hk2 : l.drop (k + 1) = r := by rw [<- List.drop_drop, hk]; rfl
   obtain ⟨e, hi'⟩ := h1 k x s hx hi
   have hlt := (List.getElem?_eq_some_iff.1 hx).1
   rw [loopO_in e]
   exact ih (k + 1) n (g s x) hk2 (by omega) (by simp at hn; omega) hi'
 exact key l 0 n s rfl (by omega) hn hs

theorem next_i64 (i : Nat) (h : (i : Int) + 1 < 9223372036854775808) : IntKind.wrap IntKind.i64 ((i : Int) + (1 : Int)) = ((i + 1 : Nat) : Int) := by
 have := wrap_nat .i64 (i + 1) (by show i + 1 < 2 ^ 64; omega) (fun _ => by show i + 1 < 2 ^ 63; omega)
 simpa using this
theorem del_eq {α : Type} (l : List α) (i j : Nat) (hij : i <= j) (hj : j <= l.length) (X Y Z : List α) :
  List.take (i + (List.take (l.length - j) (List.drop j l)).length) (List.take (i + (List.take (l.length - j) (List.drop j l)).length) (List.take i l ++ List.take (l.length - j) (List.drop j l) ++ X) ++ Y ++ Z) = l.take i ++ l.drop j := by
 have hB : List.take (l.length - j) (List.drop j l) = List.drop j l := List.take_of_length_le (by simp)
 rw [hB]
 have hl : (List.take i l ++ List.drop j l).length = i + (List.drop j l).length := by simp; omega
 rw [<- hl, List.take_left' rfl, List.append_assoc, List.take_left' rfl]
set_option linter.unnecessarySimpa false
def lst (now a : Int) : Int :=
 if now / 1048576 ≠ a / 1048576 then 80 + a / 1048576 % 16
 else if now / 65536 ≠ a / 65536 then 64 + a / 65536 % 16
 else if now / 4096 ≠ a / 4096 then 48 + a / 4096 % 16
 else if now / 256 ≠ a / 256 then 32 + a / 256 % 16
 else if now / 16 ≠ a / 16 then 16 + a / 16 % 16
 else a % 16
theorem lst_bound (now a : Int) : 0 <= lst now a /\ lst now a < 96 := by
 unfold lst
 repeat' split
 all_goals omega
structure AtK (now a p k : Int) : Prop where
 up : now / (16 * p) = a / (16 * p)
 ne : now / p ≠ a / p
 eq : lst now a = 16 * k + a / p % 16
theorem lst_cases {now a : Int} (h0 : 0 <= now) (h1 : now < a) (h2 : a < 16777216) :
   AtK now a 1048576 5 \/ AtK now a 65536 4 \/ AtK now a 4096 3 \/ AtK now a 256 2 \/ AtK now a 16 1 \/ AtK now a 1 0 := by
 by_cases c5 : now / 1048576 = a / 1048576
 . by_cases c4 : now / 65536 = a / 65536
   . by_cases c3 : now / 4096 = a / 4096
     . by_cases c2 : now / 256 = a / 256
       . by_cases c1 : now / 16 = a / 16
         . refine .inr (.inr (.inr (.inr (.inr ⟨c1, by omega, ?_⟩))))
           unfold lst
           rw [if_neg (by omega), if_neg (by omega), if_neg (by omega), if_neg (by omega), if_neg (by omega)]; omega
         . refine .inr (.inr (.inr (.inr (.inl ⟨c2, c1, ?_⟩))))
           unfold lst
           rw [if_neg (by omega), if_neg (by omega), if_neg (by omega), if_neg (by omega), if_pos c1]; rfl
       . refine .inr (.inr (.inr (.inl ⟨c3, c2, ?_⟩)))
         unfold lst
         rw [if_neg (by omega), if_neg (by omega), if_neg (by omega), if_pos c2]; rfl
     . refine .inr (.inr (.inl ⟨c4, c3, ?_⟩))
       unfold lst
       rw [if_neg (by omega), if_neg (by omega), if_pos c3]; rfl
   . refine .inr (.inl ⟨c5, c4, ?_⟩)
     unfold lst
     rw [if_neg (by omega), if_pos c4]; rfl
 . refine .inl ⟨by show now / 16777216 = a / 16777216; omega, c5, ?_⟩
   unfold lst
   rw [if_pos c5]; rfl
structure Turn (n p k idx a : Int) : Prop where
 here : lst (n - 1) a = idx -> a ≠ n -> 0 <= lst n a /\ lst n a < 16 * k
 there : lst (n - 1) a ≠ idx -> n < a /\ lst n a = lst (n - 1) a /\ 16 * k <= lst (n - 1) a
 due : a = n -> lst (n - 1) a = idx
set_option maxHeartbeats 2000000 in
theorem turn_of {n a : Int} (h0 : 1 <= n) (h1 : n <= a) (h2 : a < 16777216) :
   (n % 1048576 = 0 -> Turn n 1048576 5 (80 + n / 1048576 % 16) a) /\
   (n % 65536 = 0 -> n % 1048576 ≠ 0 -> Turn n 65536 4 (64 + n / 65536 % 16) a) /\
   (n % 4096 = 0 -> n % 65536 ≠ 0 -> Turn n 4096 3 (48 + n / 4096 % 16) a) /\
   (n % 256 = 0 -> n % 4096 ≠ 0 -> Turn n 256 2 (32 + n / 256 % 16) a) /\
   (n % 16 = 0 -> n % 256 ≠ 0 -> Turn n 16 1 (16 + n / 16 % 16) a) /\
   (n % 16 ≠ 0 -> Turn n 1 0 (0 + n / 1 % 16) a) := by
 have hl := lst_cases (now := n - 1) (by omega) (by omega) h2
 by_cases e : a = n
 . subst e
   refine ⟨fun k => ⟨fun _ q => absurd rfl q, fun q => absurd ?_ q, fun _ => ?_⟩, fun k k' => ⟨fun _ q => absurd rfl q, fun q => absurd ?_ q, fun _ => ?_⟩, fun k k' => ⟨fun _ q => absurd rfl q, fun q => absurd ?_ q, fun _ => ?_⟩, fun k k' => ⟨fun _ q => absurd rfl q, fun q => absurd ?_ q, fun _ => ?_⟩, fun k k' => ⟨fun _ q => absurd rfl q, fun q => absurd ?_ q, fun _ => ?_⟩, fun k' => ⟨fun _ q => absurd rfl q, fun q => absurd ?_ q, fun _ => ?_⟩⟩
   all_goals (rcases hl with ⟨u, v, w⟩ | ⟨u, v, w⟩ | ⟨u, v, w⟩ | ⟨u, v, w⟩ | ⟨u, v, w⟩ | ⟨u, v, w⟩ <;> omega)
 . have hm := lst_cases (now := n) (by omega) (by omega : n < a) h2
   have hb := lst_bound n a
   refine ⟨fun k => ⟨fun q _ => ⟨hb.1, ?_⟩, fun q => ⟨by omega, ?_, ?_⟩, fun q => absurd q e⟩, fun k k' => ⟨fun q _ => ⟨hb.1, ?_⟩, fun q => ⟨by omega, ?_, ?_⟩, fun q => absurd q e⟩, fun k k' => ⟨fun q _ => ⟨hb.1, ?_⟩, fun q => ⟨by omega, ?_, ?_⟩, fun q => absurd q e⟩, fun k k' => ⟨fun q _ => ⟨hb.1, ?_⟩, fun q => ⟨by omega, ?_, ?_⟩, fun q => absurd q e⟩, fun k k' => ⟨fun q _ => ⟨hb.1, ?_⟩, fun q => ⟨by omega, ?_, ?_⟩, fun q => absurd q e⟩, fun k' => ⟨fun q _ => ⟨hb.1, ?_⟩, fun q => ⟨by omega, ?_, ?_⟩, fun q => absurd q e⟩⟩
   all_goals (rcases hl with ⟨u, v, w⟩ | ⟨u, v, w⟩ | ⟨u, v, w⟩ | ⟨u, v, w⟩ | ⟨u, v, w⟩ | ⟨u, v, w⟩ <;> rcases hm with ⟨u', v', w'⟩ | ⟨u', v', w'⟩ | ⟨u', v', w'⟩ | ⟨u', v', w'⟩ | ⟨u', v', w'⟩ | ⟨u', v', w'⟩ <;> omega)
theorem lst_self {n a : Int} (h0 : 0 <= n) (h1 : n < a) (h2 : a < 16777216) :
  lst n a ≠ 80 + n / 1048576 % 16 /\ lst n a ≠ 64 + n / 65536 % 16 /\ lst n a ≠ 48 + n / 4096 % 16 /\ lst n a ≠ 32 + n / 256 % 16 /\ lst n a ≠ 16 + n / 16 % 16 /\ lst n a ≠ 0 + n / 1 % 16 := by
 rcases lst_cases h0 h1 h2 with ⟨u, v, w⟩ | ⟨u, v, w⟩ | ⟨u, v, w⟩ | ⟨u, v, w⟩ | ⟨u, v, w⟩ | ⟨u, v, w⟩ <;> refine ⟨?_, ?_, ?_, ?_, ?_, ?_⟩ <;> omega
set_option maxRecDepth 100000
theorem wri (x : Int) (h : -9223372036854775808 <= x /\ x <= 9223372036854775807) : IntKind.wrap IntKind.i64 x = x := by
 simp only [IntKind.wrap, IntKind.bits, IntKind.signed]
 simp
 omega
theorem tab_hex : ∀ y : Fin 256, 0 < y.val -> 1 <= (bsGWheel_0.getD y.val 0).toNat /\ (y.val < 16 -> (bsGWheel_0.getD y.val 0).toNat <= 4) /\ (16 <= y.val -> 5 <= (bsGWheel_0.getD y.val 0).toNat) /\ (bsGWheel_0.getD y.val 0).toNat <= 8 := by decide +kernel
theorem tab_int (y : Int) (h0 : 0 < y) (h1 : y < 256) : 1 <= ((bsGWheel_0.getD y.toNat 0).toNat : Int) /\ (y < 16 -> ((bsGWheel_0.getD y.toNat 0).toNat : Int) <= 4) /\ (16 <= y -> 5 <= ((bsGWheel_0.getD y.toNat 0).toNat : Int)) /\ ((bsGWheel_0.getD y.toNat 0).toNat : Int) <= 8 := by
 have := tab_hex ⟨y.toNat, by omega⟩ (by show 0 < y.toNat; omega)
 simp only at this
 omega
theorem tab_len : ((bsGWheel_0.length : Nat) : Int) = 256 := by decide +kernel
structure Hex (x m : Int) : Prop where
 h0 : x < 16 -> 1 <= m /\ m <= 4
 h1 : 16 <= x -> x < 256 -> 5 <= m /\ m <= 8
 h2 : 256 <= x -> x < 4096 -> 9 <= m /\ m <= 12
 h3 : 4096 <= x -> x < 65536 -> 13 <= m /\ m <= 16
 h4 : 65536 <= x -> x < 1048576 -> 17 <= m /\ m <= 20
 h5 : 1048576 <= x -> 21 <= m /\ m <= 24
theorem len_fn (x : Int) (h0 : 0 < x) (h1 : x < 16777216) : ∃ m : Int, bLen_fn (x, ()) = some (m, ()) /\ Hex x m := by
 suffices h : ∃ m : Int, bLen64_fn (x, ()) = some (m, ()) /\ Hex x m by
   obtain ⟨m, e, hm⟩ := h
   refine ⟨m, ?_, hm⟩
   unfold bLen_fn bLen_tree
   exact ev_opt e (ev_r rfl)
 unfold bLen64_fn bLen64_tree
 simp only [fdiv8, fdiv16, wrap8u, tab_len]
 by_cases c1 : 65536 <= x
 . have e : x / 65536 % 256 = x / 65536 := by omega
   obtain ⟨t1, t2, t3, t4⟩ := tab_int (x / 65536) (by omega) (by omega)
   refine ⟨_, ev_f (decide_eq_false (by omega)) (ev_t (decide_eq_true c1) (ev_g rfl (ev_f (decide_eq_false (by omega)) (ev_g (decide_eq_true (by omega)) (ev_r rfl))))), ?_⟩
   rw [e]
   generalize ((bsGWheel_0.getD (x / 65536).toNat 0).toNat : Int) = t at *
   rw [wri t (by omega), wri _ (by omega)]
   constructor <;> intros <;> omega
 . by_cases c2 : 256 <= x
   . have e : x / 256 % 256 = x / 256 := by omega
     obtain ⟨t1, t2, t3, t4⟩ := tab_int (x / 256) (by omega) (by omega)
     refine ⟨_, ev_f (decide_eq_false (by omega)) (ev_f (decide_eq_false c1) (ev_t (decide_eq_true c2) (ev_g rfl (ev_g (decide_eq_true (by omega)) (ev_r rfl))))), ?_⟩
     rw [e]
     generalize ((bsGWheel_0.getD (x / 256).toNat 0).toNat : Int) = t at *
     rw [wri t (by omega), wri _ (by omega)]
     constructor <;> intros <;> omega
   . have e : x % 256 = x := by omega
     obtain ⟨t1, t2, t3, t4⟩ := tab_int x (by omega) (by omega)
     refine ⟨_, ev_f (decide_eq_false (by omega)) (ev_f (decide_eq_false c1) (ev_f (decide_eq_false c2) (ev_g (decide_eq_true (by omega)) (ev_r rfl)))), ?_⟩
     rw [e]
     generalize ((bsGWheel_0.getD x.toNat 0).toNat : Int) = t at *
     rw [wri t (by omega), wri _ (by omega)]
     constructor <;> intros <;> omega
theorem xor_div (a b j : Nat) : (a ^^^ b) / 2 ^ j = (a / 2 ^ j) ^^^ (b / 2 ^ j) := by
 rw [<- Nat.shiftRight_eq_div_pow, <- Nat.shiftRight_eq_div_pow, <- Nat.shiftRight_eq_div_pow, Nat.shiftRight_xor_distrib]
theorem xor_zero {a b : Nat} (h : a ^^^ b = 0) : a = b := by
 have : a ^^^ (a ^^^ b) = a := by rw [h, Nat.xor_zero]
 rw [<- Nat.xor_assoc, Nat.xor_self, Nat.zero_xor] at this
 exact this.symm
theorem xor_same (a b j : Nat) : (a ^^^ b) < 2 ^ j ↔ a / 2 ^ j = b / 2 ^ j := by
 have h := xor_div a b j
 constructor
 . intro hl
   rw [Nat.div_eq_of_lt hl] at h
   exact xor_zero h.symm
 . intro e
   rw [e, Nat.xor_self] at h
   exact (Nat.div_eq_zero_iff_lt (Nat.two_pow_pos j)).1 h
theorem and15 (x : Int) (h0 : 0 <= x) (h1 : x < 16777216) : bits BinOp.and IntKind.i64 x (15 : Int) = x % 16 := by
 have := bits_and_mask .i64 4 x h0 (by show x < 18446744073709551616; omega) (by decide) (fun _ => by show x < 9223372036854775808; omega)
 exact this
theorem list_fn {now a : Int} (h0 : 0 <= now) (h1 : now < 16777216) (h2 : 0 <= a) (h3 : a < 16777216) (hne : now ≠ a) : wList_fn (now, (a, ())) = some (lst now a, ()) := by
 obtain ⟨n, rfl⟩ := Int.eq_ofNat_of_zero_le h0
 obtain ⟨m, rfl⟩ := Int.eq_ofNat_of_zero_le h2
 have hn : n < 16777216 := by omega
 have hm : m < 16777216 := by omega
 have hx : bits BinOp.xor IntKind.i64 (n : Int) (m : Int) = ((n ^^^ m : Nat) : Int) := bits_xor_nat .i64 n m (by show n < 2 ^ 64; omega) (by show m < 2 ^ 64; omega) (fun _ => ⟨by show n < 2 ^ 63; omega, by show m < 2 ^ 63; omega⟩)
 have hlt : (n ^^^ m) < 16777216 := Nat.xor_lt_two_pow (n := 24) hn hm
 have hpos : 0 < (n ^^^ m) := by
   rcases Nat.eq_zero_or_pos (n ^^^ m) with e | e
   . have := xor_zero e; omega
   . exact e
 obtain ⟨l, hl, hh⟩ := len_fn ((n ^^^ m : Nat) : Int) (by omega) (by omega)
 have x4 := xor_same n m 4
 have x8 := xor_same n m 8
 have x12 := xor_same n m 12
 have x16 := xor_same n m 16
 have x20 := xor_same n m 20
 obtain ⟨g0, g1, g2, g3, g4, g5⟩ := hh
 have hw : IntKind.wrap IntKind.u64 (((n ^^^ m : Nat) : Int)) = ((n ^^^ m : Nat) : Int) := by rw [wrap64u]; omega
 generalize (n ^^^ m) = x at *
 have hr : 1 <= l /\ l <= 24 := by omega
 unfold wList_fn wList_tree
 simp only [hx, hw]
 refine ev_opt hl ?_
 have e1 : IntKind.wrap IntKind.i64 (l - 1) = l - 1 := wri _ (by omega)
 have e2 : Int.tdiv (l - 1) 4 = (l - 1) / 4 := Int.tdiv_eq_ediv_of_nonneg (by omega)
 have hk : (l - 1) / 4 = 0 \/ (l - 1) / 4 = 1 \/ (l - 1) / 4 = 2 \/ (l - 1) / 4 = 3 \/ (l - 1) / 4 = 4 \/ (l - 1) / 4 = 5 := by omega
 simp only [e1, e2]
 unfold lst
 rcases hk with k | k | k | k | k | k
 . have hb : x < 16 := by omega
   simp only [k]
   refine ev_g rfl (ev_g rfl (ev_r ?_))
   have s : Int.fdiv (m : Int) ((2 : Int) ^ min (Int.toNat (IntKind.wrap IntKind.i64 (4 * IntKind.wrap IntKind.i64 0))) 64) = (m : Int) := by
     show Int.fdiv (m : Int) 1 = m
     rw [fdiv_pos _ (by decide)]; omega
   rw [s, and15 _ (by omega) (by omega), if_neg (by omega), if_neg (by omega), if_neg (by omega), if_neg (by omega), if_neg (by omega)]
   have : IntKind.wrap IntKind.i64 (16 * IntKind.wrap IntKind.i64 0) = 0 := by rfl
   rw [this, wri _ (by omega), Int.zero_add]
 . have hb : 16 <= x /\ x < 256 := by omega
   simp only [k]
   refine ev_g rfl (ev_g rfl (ev_r ?_))
   have s : Int.fdiv (m : Int) ((2 : Int) ^ min (Int.toNat (IntKind.wrap IntKind.i64 (4 * IntKind.wrap IntKind.i64 1))) 64) = (m : Int) / 16 := by
     show Int.fdiv (m : Int) 16 = _
     rw [fdiv_pos _ (by decide)]
   rw [s, and15 _ (by omega) (by omega), if_neg (by omega), if_neg (by omega), if_neg (by omega), if_neg (by omega), if_pos (by omega)]
   have : IntKind.wrap IntKind.i64 (16 * IntKind.wrap IntKind.i64 1) = 16 := by rfl
   rw [this, wri _ (by omega)]
 . have hb : 256 <= x /\ x < 4096 := by omega
   simp only [k]
   refine ev_g rfl (ev_g rfl (ev_r ?_))
   have s : Int.fdiv (m : Int) ((2 : Int) ^ min (Int.toNat (IntKind.wrap IntKind.i64 (4 * IntKind.wrap IntKind.i64 2))) 64) = (m : Int) / 256 := by
     show Int.fdiv (m : Int) 256 = _
     rw [fdiv_pos _ (by decide)]
   rw [s, and15 _ (by omega) (by omega), if_neg (by omega), if_neg (by omega), if_neg (by omega), if_pos (by omega)]
   have : IntKind.wrap IntKind.i64 (16 * IntKind.wrap IntKind.i64 2) = 32 := by rfl
   rw [this, wri _ (by omega)]
 . have hb : 4096 <= x /\ x < 65536 := by omega
   simp only [k]
   refine ev_g rfl (ev_g rfl (ev_r ?_))
   have s : Int.fdiv (m : Int) ((2 : Int) ^ min (Int.toNat (IntKind.wrap IntKind.i64 (4 * IntKind.wrap IntKind.i64 3))) 64) = (m : Int) / 4096 := by
     show Int.fdiv (m : Int) 4096 = _
     rw [fdiv_pos _ (by decide)]
   rw [s, and15 _ (by omega) (by omega), if_neg (by omega), if_neg (by omega), if_pos (by omega)]
   have : IntKind.wrap IntKind.i64 (16 * IntKind.wrap IntKind.i64 3) = 48 := by rfl
   rw [this, wri _ (by omega)]
 . have hb : 65536 <= x /\ x < 1048576 := by omega
   simp only [k]
   refine ev_g rfl (ev_g rfl (ev_r ?_))
   have s : Int.fdiv (m : Int) ((2 : Int) ^ min (Int.toNat (IntKind.wrap IntKind.i64 (4 * IntKind.wrap IntKind.i64 4))) 64) = (m : Int) / 65536 := by
     show Int.fdiv (m : Int) 65536 = _
     rw [fdiv_pos _ (by decide)]
   rw [s, and15 _ (by omega) (by omega), if_neg (by omega), if_pos (by omega)]
   have : IntKind.wrap IntKind.i64 (16 * IntKind.wrap IntKind.i64 4) = 64 := by rfl
   rw [this, wri _ (by omega)]
 . have hb : 1048576 <= x := by omega
   simp only [k]
   refine ev_g rfl (ev_g rfl (ev_r ?_))
   have s : Int.fdiv (m : Int) ((2 : Int) ^ min (Int.toNat (IntKind.wrap IntKind.i64 (4 * IntKind.wrap IntKind.i64 5))) 64) = (m : Int) / 1048576 := by
     show Int.fdiv (m : Int) 1048576 = _
     rw [fdiv_pos _ (by decide)]
   rw [s, and15 _ (by omega) (by omega), if_pos (by omega)]
   have : IntKind.wrap IntKind.i64 (16 * IntKind.wrap IntKind.i64 5) = 80 := by rfl
   rw [this, wri _ (by omega)]
def cell (now : Int) (b : List TDue) (i : Nat) : List TDue := b.filter fun d => decide (lst now d.at' = (i : Int))
def Wh (now : Int) (b : List TDue) : List (List TDue) := (List.range 96).map (cell now b)
theorem Wh_len (now : Int) (b : List TDue) : (Wh now b).length = 96 := by unfold Wh; rw [List.length_map, List.length_range]
theorem Wh_get (now : Int) (b : List TDue) {i : Nat} (hi : i < 96) : (Wh now b)[i]? = some (cell now b i) := by
 unfold Wh
 rw [List.getElem?_map, List.getElem?_range hi]; rfl
theorem wh_ext {now : Int} {b : List TDue} {L : List (List TDue)} (hl : L.length = 96) (h : ∀ i, i < 96 -> L[i]? = some (cell now b i)) : L = Wh now b := by
 apply List.ext_getElem?
 intro i
 by_cases hi : i < 96
 . rw [h i hi, Wh_get now b hi]
 . rw [List.getElem?_eq_none (by omega), List.getElem?_eq_none (by rw [Wh_len]; omega)]
def cst (n : Int) (s : List TDue × List (List TDue)) (d : TDue) : List TDue × List (List TDue) :=
 if d.at' = n then (s.1 ++ [d], s.2) else (s.1, s.2.set (lst n d.at').toNat (s.2.getD (lst n d.at').toNat [] ++ [d]))
theorem cst_len (n : Int) : ∀ (l : List TDue) (s : List TDue × List (List TDue)), (l.foldl (cst n) s).2.length = s.2.length
 | [], s => rfl
 | d :: l, s => by
  rw [List.foldl_cons, cst_len n l]
  unfold cst
  split
  . rfl
  . rw [List.length_set]
theorem cst_out (n : Int) : ∀ (l : List TDue) (s : List TDue × List (List TDue)), (l.foldl (cst n) s).1 = s.1 ++ l.filter (fun d => decide (d.at' = n))
 | [], s => by simp
 | d :: l, s => by
  rw [List.foldl_cons, cst_out n l]
  unfold cst
  by_cases h : d.at' = n
  . rw [if_pos h, List.filter_cons, if_pos (by simp [h])]; simp
  . rw [if_neg h, List.filter_cons, if_neg (by simp [h])]
theorem cst_get (n : Int) (i : Nat) : ∀ (l : List TDue) (s : List TDue × List (List TDue)), s.2.length = 96 -> i < 96 ->
  (l.foldl (cst n) s).2.getD i [] = s.2.getD i [] ++ l.filter (fun d => decide (¬ d.at' = n) && decide (lst n d.at' = (i : Int)))
 | [], s, _, _ => by simp
 | d :: l, s, hs, hi => by
  rw [List.foldl_cons, cst_get n i l _ (by rw [<- hs]; exact cst_len n [d] s) hi]
  have hb := lst_bound n d.at'
  unfold cst
  by_cases h : d.at' = n
  . rw [if_pos h, List.filter_cons, if_neg (by simp [h])]
  . rw [if_neg h]
    by_cases e : lst n d.at' = (i : Int)
    . rw [List.filter_cons, if_pos (by simp [h, e])]
      have e' : (lst n d.at').toNat = i := by omega
      simp only [e']
      rw [List.getD_eq_getElem?_getD, List.getElem?_set_self (by omega), Option.getD_some, List.append_assoc]; rfl
    . rw [List.filter_cons, if_neg (by simp [e])]
      simp only
      rw [List.getD_eq_getElem?_getD, List.getElem?_set_ne (by omega), <- List.getD_eq_getElem?_getD]
theorem getD_some {L : List (List TDue)} {i : Nat} (hi : i < L.length) : L[i]? = some (L.getD i []) := by
 rw [List.getD_eq_getElem?_getD, List.getElem?_eq_getElem hi]; rfl
theorem filter_nil {α : Type} {l : List α} {p : α -> Bool} (h : ∀ x ∈ l, p x = false) : l.filter p = [] := List.filter_eq_nil_iff.2 fun x hx => by simp [h x hx]
theorem filter_same {α : Type} {l : List α} {p q : α -> Bool} (h : ∀ x ∈ l, p x = q x) : l.filter p = l.filter q := List.filter_congr h
theorem casc_wh {n p k idx : Int} {b : List TDue} (hi : 0 <= idx /\ idx < 96) (hk : 16 * k <= idx) (hb : ∀ d ∈ b, n <= d.at') (ht : ∀ d ∈ b, Turn n p k idx d.at') :
   (cell (n - 1) b idx.toNat).foldl (cst n) ([], (Wh (n - 1) b).set idx.toNat []) = (b.filter (fun d => decide (d.at' = n)), Wh n (b.filter (fun d => decide (n < d.at')))) := by
 have hcell : ∀ (q : TDue -> Bool), (cell (n - 1) b idx.toNat).filter q = b.filter (fun d => q d && decide (lst (n - 1) d.at' = idx)) := by
   intro q
   unfold cell
   rw [List.filter_filter]
   apply filter_same
   intro d _
   rw [Int.toNat_of_nonneg hi.1]
 apply Prod.ext
 . rw [cst_out]
   simp only [List.nil_append]
   rw [hcell]
   apply filter_same
   intro d hd
   by_cases e : d.at' = n
   . rw [decide_eq_true e, decide_eq_true ((ht d hd).due e)]; rfl
   . rw [decide_eq_false e]; rfl
 . apply wh_ext
   . rw [cst_len]; simp only; rw [List.length_set, Wh_len]
   . intro i hi'
     have h96 : ((cell (n - 1) b idx.toNat).foldl (cst n) ([], (Wh (n - 1) b).set idx.toNat [])).2.length = 96 := by rw [cst_len]; simp only; rw [List.length_set, Wh_len]
     rw [getD_some (by omega), cst_get n i _ _ (by simp only; rw [List.length_set, Wh_len]) hi', hcell]
     simp only
     congr 1
     unfold cell
     rw [List.filter_filter]
     by_cases e : idx.toNat = i
     . rw [e, List.getD_eq_getElem?_getD, List.getElem?_set_self (by rw [Wh_len]; omega), Option.getD_some, List.nil_append, filter_nil, filter_nil]
       . intro d hd
         have h := ht d hd
         by_cases c : lst (n - 1) d.at' = idx
         . by_cases c2 : d.at' = n
           . simp [c2]
           . have := h.here c c2
             simp; intro q; omega
         . have := (h.there c).2.1
           simp; intro q; omega
       . intro d hd
         have h := ht d hd
         by_cases c : lst (n - 1) d.at' = idx
         . by_cases c2 : d.at' = n
           . simp [c2]
           . have := h.here c c2
             simp; intro q q2; omega
         . simp [c]
     . rw [List.getD_eq_getElem?_getD, List.getElem?_set_ne e, Wh_get _ _ hi', Option.getD_some]
       unfold cell
       by_cases hlow : (i : Int) < 16 * k
       . rw [filter_nil (l := b) (p := fun d => decide (lst (n - 1) d.at' = (i : Int))), List.nil_append]
         . apply filter_same
           intro d hd
           have h := ht d hd
           have hn := hb d hd
           by_cases c : lst (n - 1) d.at' = idx
           . by_cases c2 : d.at' = n
             . simp [c2]
             . have : n < d.at' := by omega
               simp [c, c2, this]
           . have := h.there c
             have c3 : ¬ lst n d.at' = (i : Int) := by omega
             simp [c3]
         . intro d hd
           have h := ht d hd
           by_cases c : lst (n - 1) d.at' = idx
           . simp; omega
           . have := h.there c
             simp; omega
       . rw [filter_nil (l := b) (p := fun d => decide (¬ d.at' = n) && decide (lst n d.at' = (i : Int)) && decide (lst (n - 1) d.at' = idx)), List.append_nil]
         . apply filter_same
           intro d hd
           have h := ht d hd
           have hn := hb d hd
           by_cases c : lst (n - 1) d.at' = idx
           . have c3 : ¬ lst (n - 1) d.at' = (i : Int) := by omega
             by_cases c2 : d.at' = n
             . simp [c2] at c3 ⊢
               exact c3
             . have := h.here c c2
               have c4 : ¬ lst n d.at' = (i : Int) := by omega
               simp [c3, c4]
           . have := h.there c
             simp [this.1, this.2.1]
         . intro d hd
           have h := ht d hd
           by_cases c : lst (n - 1) d.at' = idx
           . by_cases c2 : d.at' = n
             . simp [c2]
             . have := h.here c c2
               have c4 : ¬ lst n d.at' = (i : Int) := by omega
               simp [c4]
           . simp [c]
structure BOk (now : Int) (b : List TDue) : Prop where
 n0 : 0 <= now
 n1 : now < 16777216
 len : b.length <= 500
 at' : ∀ d ∈ b, now < d.at' /\ d.at' < 16777216
 ids : (b.map (·.id)).Nodup
theorem cell_len (now : Int) (b : List TDue) (i : Nat) : (cell now b i).length <= b.length := List.length_filter_le _ _
theorem put_fn {id a now : Int} {L : List (List TDue)} (h0 : 0 <= now) (h1 : now < 16777216) (h2 : 0 <= a) (h3 : a < 16777216) (hne : now ≠ a) (hL : L.length = 96) (hl : ∀ (i : Nat) (xs : List TDue), L[i]? = some xs -> xs.length <= 1000) :
  wPut_fn (id, (a, (now, (96, (L, ()))))) = some (now, (96, (L.set (lst now a).toNat (L.getD (lst now a).toNat [] ++ [⟨id, a⟩]), ()))) := by
 have hb := lst_bound now a
 have hx : (lst now a).toNat < L.length := by omega
 have hm := hl _ _ (getD_some hx)
 unfold wPut_fn wPut_tree
 refine ev_opt (list_fn h0 h1 h2 h3 hne) (ev_g (decide_eq_true (by omega)) (ev_g (decide_eq_true (by omega)) (ev_opt (getD_some hx) (ev_g (decide_eq_true ?_) (ev_g (decide_eq_true (by omega)) (ev_g (by simp) (ev_r rfl)))))))
 simp only [List.length_singleton]
 omega
theorem inner_fn {n k : Int} {l o : List TDue} {L : List (List TDue)} (h0 : 0 <= n) (h1 : n < 16777216) (hat : ∀ d ∈ l, n <= d.at' /\ d.at' < 16777216) (hl : l.length <= 500) (ho : o.length <= 500) (hL : L.length = 96) (hLl : ∀ (i : Nat) (xs : List TDue), L[i]? = some xs -> xs.length <= 500) :
   wTurn_loop23_11 (0, (k, ((l.length : Int), (o, (n, (l, (96, (L, ())))))))) = some (k, ((l.foldl (cst n) (o, L)).1, (n, (96, ((l.foldl (cst n) (o, L)).2, ()))))) := by
 unfold wTurn_loop23_11
 refine (loop_fold (l := l) (S := List TDue × List (List TDue)) (st := fun i s => ((i : Int), (k, ((l.length : Int), (s.1, (n, (l, (96, (s.2, ())))))))))
   (I := fun i s => s.1.length <= 500 + i /\ s.2.length = 96 /\ ∀ (q : Nat) (xs : List TDue), s.2[q]? = some xs -> xs.length <= 500 + i) (g := cst n) (out := fun s => (k, (s.1, (n, (96, (s.2, ()))))))
   (fun i x s hx hI => ?_) (fun s hI => ?_) _ (o, L) ⟨by simpa using ho, hL, fun q xs h => by have := hLl q xs h; omega⟩ (by omega)).1
 . obtain ⟨i1, i2, i3⟩ := hI
   have hi := (List.getElem?_eq_some_iff.1 hx).1
   have hxm := List.mem_of_getElem? hx
   have hxa := hat x hxm
   have hnx : IntKind.wrap IntKind.i64 ((i : Int) + 1) = ((i + 1 : Nat) : Int) := next_i64 i (by omega)
   unfold cst
   by_cases e : x.at' = n
   . rw [if_pos e]
     refine ⟨?_, by simp; omega, i2, fun q xs h => by have := i3 q xs h; omega⟩
     unfold wTurn_step23_11
     simp only
     refine ev_t (decide_eq_true (by omega)) (ev_g (decide_eq_true (by omega)) (ev_opt (b := x) (by rw [Int.toNat_natCast]; exact hx) (ev_t (decide_eq_true e) (ev_g (decide_eq_true ?_) (ev_g (by simp) (ev_g (by simp) (ev_r ?_)))))))
     . simp only [List.length_singleton]; omega
     . rw [hnx]
   . rw [if_neg e]
     have hb := lst_bound n x.at'
     refine ⟨?_, by simp; omega, by simp only; rw [List.length_set]; exact i2, fun q xs h => ?_⟩
     . unfold wTurn_step23_11
       simp only
       refine ev_t (decide_eq_true (by omega)) (ev_g (decide_eq_true (by omega)) (ev_opt (b := x) (by rw [Int.toNat_natCast]; exact hx) (ev_f (decide_eq_false e) (ev_opt (put_fn h0 h1 (by omega) hxa.2 (fun q => e q.symm) i2 (fun q xs h => by have := i3 q xs h; omega)) (ev_g (by simp) (ev_g (by simp) (ev_r ?_)))))))
       rw [hnx]
     . simp only at h
       by_cases hq : (lst n x.at').toNat = q
       . subst hq
         rw [List.getElem?_set_self (by omega)] at h
         cases h
         have := i3 _ _ (getD_some (L := s.2) (i := (lst n x.at').toNat) (by omega))
         rw [List.length_append, List.length_singleton]; omega
       . rw [List.getElem?_set_ne hq] at h
         have := i3 q xs h
         omega
 . unfold wTurn_step23_11
   simp only
   exact ev_f (decide_eq_false (by omega)) (ev_g (by simp) (ev_r rfl))
structure Lev (n k p : Int) : Prop where
 k0 : 0 <= k
 k5 : k <= 5
 sh : (0 : Int) <= IntKind.wrap IntKind.i64 ((4 : Int) * k)
 mask : bits BinOp.and IntKind.i64 n (IntKind.wrap IntKind.i64 (IntKind.wrap IntKind.i64 ((1 : Int) * (2 : Int) ^ min (Int.toNat (IntKind.wrap IntKind.i64 ((4 : Int) * k))) (64 : Nat)) - (1 : Int))) = n % p
 idx : IntKind.wrap IntKind.i64 (IntKind.wrap IntKind.i64 ((16 : Int) * k) + bits BinOp.and IntKind.i64 (Int.fdiv n ((2 : Int) ^ min (Int.toNat (IntKind.wrap IntKind.i64 ((4 : Int) * k))) (64 : Nat))) (15 : Int)) = 16 * k + n / p % 16
theorem lev_of {n : Int} (h0 : 0 <= n) (h1 : n < 16777216) : Lev n 5 1048576 /\ Lev n 4 65536 /\ Lev n 3 4096 /\ Lev n 2 256 /\ Lev n 1 16 /\ Lev n 0 1 := by
 have hm : ∀ j : Nat, j < 64 -> bits BinOp.and IntKind.i64 n ((2 : Int) ^ j - 1) = n % (2 : Int) ^ j := fun j hj => bits_and_mask .i64 j n h0 (by show n < 18446744073709551616; omega) hj (fun _ => by show n < 9223372036854775808; omega)
 have hd : ∀ y : Int, 0 <= y -> Int.fdiv n y = n / y := fun y hy => fdiv_pos n hy
 refine ⟨⟨by decide, by decide, by decide, hm 20 (by decide), ?_⟩, ⟨by decide, by decide, by decide, hm 16 (by decide), ?_⟩, ⟨by decide, by decide, by decide, hm 12 (by decide), ?_⟩, ⟨by decide, by decide, by decide, hm 8 (by decide), ?_⟩, ⟨by decide, by decide, by decide, hm 4 (by decide), ?_⟩, ⟨by decide, by decide, by decide, hm 0 (by decide), ?_⟩⟩
 . show IntKind.wrap IntKind.i64 (80 + bits BinOp.and IntKind.i64 (Int.fdiv n 1048576) 15) = _
   rw [hd _ (by decide), and15 _ (by omega) (by omega), wri _ (by omega)]; omega
 . show IntKind.wrap IntKind.i64 (64 + bits BinOp.and IntKind.i64 (Int.fdiv n 65536) 15) = _
   rw [hd _ (by decide), and15 _ (by omega) (by omega), wri _ (by omega)]; omega
 . show IntKind.wrap IntKind.i64 (48 + bits BinOp.and IntKind.i64 (Int.fdiv n 4096) 15) = _
   rw [hd _ (by decide), and15 _ (by omega) (by omega), wri _ (by omega)]; omega
 . show IntKind.wrap IntKind.i64 (32 + bits BinOp.and IntKind.i64 (Int.fdiv n 256) 15) = _
   rw [hd _ (by decide), and15 _ (by omega) (by omega), wri _ (by omega)]; omega
 . show IntKind.wrap IntKind.i64 (16 + bits BinOp.and IntKind.i64 (Int.fdiv n 16) 15) = _
   rw [hd _ (by decide), and15 _ (by omega) (by omega), wri _ (by omega)]; omega
 . show IntKind.wrap IntKind.i64 (0 + bits BinOp.and IntKind.i64 (Int.fdiv n 1) 15) = _
   rw [hd _ (by decide), and15 _ (by omega) (by omega), wri _ (by omega)]; omega
theorem lev_skip {n k p : Int} {o : List TDue} {L : List (List TDue)} (hv : Lev n k p) (hp : n % p ≠ 0) :
  (wTurn_step23_4 (k, (o, (n, (96, (L, ())))))).eval = some (.inl (k - 1, (o, (n, (96, (L, ())))))) := by
 obtain ⟨k0, k5, hs, hm, hi⟩ := hv
 unfold wTurn_step23_4
 simp only [hm]
 refine ev_t (decide_eq_true k0) (ev_g (decide_eq_true hs) (ev_t (by rw [decide_eq_false hp]; rfl) (ev_g (by simp) (ev_r ?_))))
 rw [wri _ (by omega)]
theorem lev_go {n k p : Int} {o l : List TDue} {L : List (List TDue)} (h0 : 0 <= n) (h1 : n < 16777216) (hv : Lev n k p) (hp : n % p = 0) (hp0 : 0 < p) (hL : L.length = 96) (hl : L[(16 * k + n / p % 16).toNat]? = some l)
   (hat : ∀ d ∈ l, n <= d.at' /\ d.at' < 16777216) (ho : o.length <= 500) (hLl : ∀ (i : Nat) (xs : List TDue), L[i]? = some xs -> xs.length <= 500) :
   (wTurn_step23_4 (k, (o, (n, (96, (L, ())))))).eval = some (.inl (k - 1, ((l.foldl (cst n) (o, L.set (16 * k + n / p % 16).toNat [])).1, (n, (96, ((l.foldl (cst n) (o, L.set (16 * k + n / p % 16).toNat [])).2, ())))))) := by
 obtain ⟨k0, k5, hs, hm, hi⟩ := hv
 have hr : 0 <= 16 * k + n / p % 16 /\ 16 * k + n / p % 16 < 96 := by omega
 unfold wTurn_step23_4
 simp only [hm, hi]
 refine ev_t (decide_eq_true k0) (ev_g (decide_eq_true hs) (ev_f (by rw [decide_eq_true hp]; rfl) (ev_g (decide_eq_true hs) (ev_g (decide_eq_true (by omega)) (ev_g (decide_eq_true (by omega)) (ev_opt hl (ev_g (decide_eq_true (by omega)) (ev_g (by simp) (ev_g (by simp) (ev_g (by simp) (ev_opt (inner_fn h0 h1 hat (hLl _ _ hl) ho (by rw [List.length_set]; exact hL) ?_) (ev_g (by simp) (ev_r ?_)))))))))))))
 . intro i xs h
   by_cases hq : (16 * k + n / p % 16).toNat = i
   . subst hq
     rw [List.getElem?_set_self (by omega)] at h
     cases h; simp
   . rw [List.getElem?_set_ne hq] at h
     exact hLl i xs h
 . rw [wri _ (by omega)]
theorem wh_lens {now : Int} {b : List TDue} (hb : b.length <= 500) (i : Nat) (xs : List TDue) (h : (Wh now b)[i]? = some xs) : xs.length <= 500 := by
 have hi := (List.getElem?_eq_some_iff.1 h).1
 rw [Wh_len] at hi
 rw [Wh_get now b hi] at h
 cases h
 have := cell_len now b i
 omega
theorem lev_post {n k p : Int} {o b : List TDue} (h0 : 0 <= n) (h1 : n < 16777216) (hv : Lev n k p) (hp : n % p = 0) (hp0 : 0 < p) (hb : b.length <= 500) (ho : o.length <= 500) (hne : ∀ d ∈ b, lst n d.at' ≠ 16 * k + n / p % 16) :
  (wTurn_step23_4 (k, (o, (n, (96, (Wh n b, ())))))).eval = some (.inl (k - 1, (o, (n, (96, (Wh n b, ())))))) := by
 have hr : 0 <= 16 * k + n / p % 16 /\ 16 * k + n / p % 16 < 96 := by have := hv.k0; have := hv.k5; omega
 have hc : cell n b (16 * k + n / p % 16).toNat = [] := by
  unfold cell
  apply filter_nil
  intro d hd
  have := hne d hd
  simp; omega
 have hl : (Wh n b)[(16 * k + n / p % 16).toNat]? = some [] := by rw [Wh_get _ _ (by omega), hc]
 have := lev_go (o := o) h0 h1 hv hp hp0 (Wh_len n b) hl (fun d hd => by cases hd) ho (wh_lens hb)
 rw [this]
 simp only [List.foldl_nil]
 have e : (Wh n b).set (16 * k + n / p % 16).toNat [] = Wh n b := by
  apply List.ext_getElem?
  intro i
  by_cases hq : (16 * k + n / p % 16).toNat = i
  . subst hq
    rw [List.getElem?_set_self (by rw [Wh_len]; omega), hl]
  . rw [List.getElem?_set_ne hq]
 rw [e]
theorem lev_turn {n k p : Int} {b : List TDue} (h0 : 0 <= n) (h1 : n < 16777216) (hv : Lev n k p) (hp : n % p = 0) (hp0 : 0 < p) (hb : b.length <= 500) (hat : ∀ d ∈ b, n <= d.at' /\ d.at' < 16777216) (ht : ∀ d ∈ b, Turn n p k (16 * k + n / p % 16) d.at') :
  (wTurn_step23_4 (k, ([], (n, (96, (Wh (n - 1) b, ())))))).eval = some (.inl (k - 1, (b.filter (fun d => decide (d.at' = n)), (n, (96, (Wh n (b.filter (fun d => decide (n < d.at'))), ())))))) := by
 have hr : 0 <= 16 * k + n / p % 16 /\ 16 * k + n / p % 16 < 96 := by have := hv.k0; have := hv.k5; omega
 have hl : (Wh (n - 1) b)[(16 * k + n / p % 16).toNat]? = some (cell (n - 1) b (16 * k + n / p % 16).toNat) := Wh_get _ _ (by omega)
 have := lev_go (o := []) h0 h1 hv hp hp0 (Wh_len _ _) hl (fun d hd => hat d (List.mem_filter.1 hd).1) (by simp) (wh_lens hb)
 rw [this, casc_wh hr (by omega) (fun d hd => (hat d hd).1) ht]
theorem turn_fn {now : Int} {b : List TDue} (h : BOk now b) (h1 : now + 1 < 16777216) :
   wTurn_fn (now, (96, (Wh now b, ()))) = some (now + 1, (96, (Wh (now + 1) (b.filter (fun d => decide (now + 1 < d.at'))), (b.filter (fun d => decide (d.at' = now + 1)), ())))) := by
 have hn0 := h.n0
 have hat : ∀ d ∈ b, now + 1 <= d.at' /\ d.at' < 16777216 := fun d hd => by have := h.at' d hd; omega
 have hT := fun (d : TDue) (hd : d ∈ b) => turn_of (n := now + 1) (a := d.at') (by omega) (hat d hd).1 (hat d hd).2
 have hlen := h.len
 have e1 : IntKind.wrap IntKind.i64 (now + 1) = now + 1 := wri _ (by omega)
 unfold wTurn_fn wTurn_tree
 simp only [e1]
 have hw : Wh now b = Wh (now + 1 - 1) b := by rw [show now + 1 - 1 = now by omega]
 rw [hw]
 have hnn : 0 <= now + 1 := by omega
 clear e1 hw
 generalize now + 1 = n at *
 obtain ⟨l5, l4, l3, l2, l1, l0⟩ := lev_of hnn h1
 have hB : (b.filter (fun d => decide (n < d.at'))).length <= 500 := Nat.le_trans (List.length_filter_le _ _) hlen
 have hO : (b.filter (fun d => decide (d.at' = n))).length <= 500 := Nat.le_trans (List.length_filter_le _ _) hlen
 have hself : ∀ d ∈ b.filter (fun d => decide (n < d.at')), _ := fun d hd => lst_self (n := n) (a := d.at') hnn (by simpa using (List.mem_filter.1 hd).2) (hat d (List.mem_filter.1 hd).1).2
 suffices hloop : wTurn_loop23_4 (5, ([], (n, (96, (Wh (n - 1) b, ()))))) = some (b.filter (fun d => decide (d.at' = n)), (n, (96, (Wh n (b.filter (fun d => decide (n < d.at'))), ())))) by
   exact ev_g rfl (ev_opt hloop (ev_g (by simp) (ev_r rfl)))
 unfold wTurn_loop23_4
 have hend : ∀ (o : List TDue) (L : List (List TDue)), (wTurn_step23_4 (-1, (o, (n, (96, (L, ())))))).eval = some (.inr (o, (n, (96, (L, ()))))) := fun o L => by
   unfold wTurn_step23_4
   exact ev_f (by decide) (ev_g (by simp) (ev_r rfl))
 by_cases c5 : n % 1048576 = 0
 . rw [loopO_in (lev_turn hnn h1 l5 c5 (by decide) hlen hat (fun d hd => (hT d hd).1 c5)),
    loopO_in (lev_post hnn h1 l4 (by omega) (by decide) hB hO (fun d hd => (hself d hd).2.1)), loopO_in (lev_post hnn h1 l3 (by omega) (by decide) hB hO (fun d hd => (hself d hd).2.2.1)),
    loopO_in (lev_post hnn h1 l2 (by omega) (by decide) hB hO (fun d hd => (hself d hd).2.2.2.1)), loopO_in (lev_post hnn h1 l1 (by omega) (by decide) hB hO (fun d hd => (hself d hd).2.2.2.2.1)),
    loopO_in (lev_post hnn h1 l0 (by omega) (by decide) hB hO (fun d hd => (hself d hd).2.2.2.2.2))]
   exact loopO_out (hend _ _)
 rw [loopO_in (lev_skip l5 c5)]
 by_cases c4 : n % 65536 = 0
 . rw [loopO_in (lev_turn hnn h1 l4 c4 (by decide) hlen hat (fun d hd => (hT d hd).2.1 c4 c5)), loopO_in (lev_post hnn h1 l3 (by omega) (by decide) hB hO (fun d hd => (hself d hd).2.2.1)),
    loopO_in (lev_post hnn h1 l2 (by omega) (by decide) hB hO (fun d hd => (hself d hd).2.2.2.1)), loopO_in (lev_post hnn h1 l1 (by omega) (by decide) hB hO (fun d hd => (hself d hd).2.2.2.2.1)),
    loopO_in (lev_post hnn h1 l0 (by omega) (by decide) hB hO (fun d hd => (hself d hd).2.2.2.2.2))]
   exact loopO_out (hend _ _)
 rw [loopO_in (lev_skip l4 c4)]
 by_cases c3 : n % 4096 = 0
 . rw [loopO_in (lev_turn hnn h1 l3 c3 (by decide) hlen hat (fun d hd => (hT d hd).2.2.1 c3 c4)),
    loopO_in (lev_post hnn h1 l2 (by omega) (by decide) hB hO (fun d hd => (hself d hd).2.2.2.1)), loopO_in (lev_post hnn h1 l1 (by omega) (by decide) hB hO (fun d hd => (hself d hd).2.2.2.2.1)),
    loopO_in (lev_post hnn h1 l0 (by omega) (by decide) hB hO (fun d hd => (hself d hd).2.2.2.2.2))]
   exact loopO_out (hend _ _)
 rw [loopO_in (lev_skip l3 c3)]
 by_cases c2 : n % 256 = 0
 . rw [loopO_in (lev_turn hnn h1 l2 c2 (by decide) hlen hat (fun d hd => (hT d hd).2.2.2.1 c2 c3)), loopO_in (lev_post hnn h1 l1 (by omega) (by decide) hB hO (fun d hd => (hself d hd).2.2.2.2.1)),
    loopO_in (lev_post hnn h1 l0 (by omega) (by decide) hB hO (fun d hd => (hself d hd).2.2.2.2.2))]
   exact loopO_out (hend _ _)
 rw [loopO_in (lev_skip l2 c2)]
 by_cases c1 : n % 16 = 0
 . rw [loopO_in (lev_turn hnn h1 l1 c1 (by decide) hlen hat (fun d hd => (hT d hd).2.2.2.2.1 c1 c2)), loopO_in (lev_post hnn h1 l0 (by omega) (by decide) hB hO (fun d hd => (hself d hd).2.2.2.2.2))]
   exact loopO_out (hend _ _)
 rw [loopO_in (lev_skip l1 c1), loopO_in (lev_turn hnn h1 l0 (by omega) (by decide) hlen hat (fun d hd => (hT d hd).2.2.2.2.2 c1))]
 exact loopO_out (hend _ _)
theorem loop_try {A B S T : Type} {tag : Nat} {f : A -> Option (A ⊕ B)} {l : List T} (st : Nat -> S -> A) (I : Nat -> S -> Prop) (ok : Nat -> T -> S -> Prop) (bad : Nat -> T -> S -> B) (out : S -> B)
  (h1 : ∀ (i : Nat) (x : T) (s : S), l[i]? = some x -> I i s -> (ok i x s -> ∃ s', f (st i s) = some (.inl (st (i + 1) s')) /\ I (i + 1) s') /\ (¬ ok i x s -> f (st i s) = some (.inr (bad i x s))))
  (h2 : ∀ s, I l.length s -> f (st l.length s) = some (.inr (out s))) (n : Nat) (s0 : S) (hs : I 0 s0) (hn : l.length < n) :
  (∃ s, I l.length s /\ loopO tag f n (st 0 s0) = some (out s)) \/ ∃ i x s, l[i]? = some x /\ I i s /\ ¬ ok i x s /\ loopO tag f n (st 0 s0) = some (bad i x s) := by
 have key : ∀ (c k n : Nat) (s : S), k + c = l.length -> c < n -> I k s -> (∃ s', I l.length s' /\ loopO tag f n (st k s) = some (out s')) \/ ∃ i x s', l[i]? = some x /\ I i s' /\ ¬ ok i x s' /\ loopO tag f n (st k s) = some (bad i x s') := by
  intro c
  induction c with
  | zero =>
   intro k n s hk hn hi
   obtain ⟨n, rfl⟩ : ∃ m, n = m + 1 := ⟨n - 1, by omega⟩
   have : k = l.length := by omega
   subst this
   exact .inl ⟨s, hi, loopO_out (h2 s hi)⟩
  | succ c ih =>
   intro k n s hk hn hi
   obtain ⟨n, rfl⟩ : ∃ m, n = m + 1 := ⟨n - 1, by omega⟩
   have hkl : k < l.length := by omega
   obtain ⟨g1, g2⟩ := h1 k l[k] s (List.getElem?_eq_getElem hkl) hi
   by_cases hp : ok k l[k] s
   . obtain ⟨s', e, hi'⟩ := g1 hp
     rw [loopO_in e]
     exact ih (k + 1) n s' (by omega) (by omega) hi'
   . exact .inr ⟨k, _, s, List.getElem?_eq_getElem hkl, hi, hp, loopO_out (g2 hp)⟩
 exact key l.length 0 n s0 (by omega) hn hs

structure WOk (now : Int) (L : List (List TDue)) : Prop where
 n0 : 0 <= now
 n1 : now < 16777216
 len : L.flatten.length <= 500
 at' : ∀ (i : Nat) (l : List TDue), L[i]? = some l -> ∀ d ∈ l, now < d.at' /\ d.at' < 16777216 /\ lst now d.at' = (i : Int)
 ids : (L.flatten.map (·.id)).Nodup
theorem flat_perm {α : Type} (x : α) : ∀ (L : List (List α)) (i : Nat) (xs : List α), L[i]? = some xs -> (L.set i (x :: xs)).flatten.Perm (x :: L.flatten)
 | [], i, xs, h => by cases h
 | l :: L, 0, xs, h => by cases h; exact List.Perm.refl _
 | l :: L, i + 1, xs, h => by
  show (l ++ (L.set i (x :: xs)).flatten).Perm (x :: (l ++ L.flatten))
  exact ((flat_perm x L i xs (by simpa using h)).append_left l).trans List.perm_middle
theorem wh_cons (now : Int) (d : TDue) (b : List TDue) : Wh now (d :: b) = (Wh now b).set (lst now d.at').toNat (d :: cell now b (lst now d.at').toNat) := by
 have hb := lst_bound now d.at'
 symm
 apply wh_ext
 . rw [List.length_set, Wh_len]
 . intro i hi
   by_cases e : (lst now d.at').toNat = i
   . subst e
     rw [List.getElem?_set_self (by rw [Wh_len]; omega)]
     unfold cell
     rw [List.filter_cons, if_pos (by simp <;> omega)]
   . rw [List.getElem?_set_ne e, Wh_get now b hi]
     unfold cell
     rw [List.filter_cons, if_neg (by simp <;> omega)]
theorem wh_perm (now : Int) : ∀ b : List TDue, (Wh now b).flatten.Perm b
 | [] => by
  have : ∀ l ∈ Wh now [], l = [] := fun l hl => by
   unfold Wh at hl
   obtain ⟨i, _, rfl⟩ := List.mem_map.1 hl
   rfl
  rw [List.flatten_eq_nil_iff.2 this]
 | d :: b => by
  have hb := lst_bound now d.at'
  rw [wh_cons]
  exact (flat_perm d _ _ _ (Wh_get now b (by omega))).trans ((wh_perm now b).cons d)
theorem flat_cell {now : Int} (i : Nat) : ∀ (L : List (List TDue)) (k : Nat), (∀ (j : Nat) (l : List TDue), L[j]? = some l -> ∀ d ∈ l, lst now d.at' = ((k + j : Nat) : Int)) ->
  cell now L.flatten i = if i < k then [] else L.getD (i - k) []
 | [], k, h => by unfold cell; simp
 | l :: L, k, h => by
  have ih := flat_cell (now := now) i L (k + 1) fun j l' hj d hd => by rw [h (j + 1) l' (by simpa using hj) d hd]; omega
  have hl := h 0 l rfl
  unfold cell at ih ⊢
  rw [List.flatten_cons, List.filter_append, ih]
  by_cases e : i = k
  . subst e
    rw [List.filter_eq_self.2 (fun d hd => by rw [hl d hd]; simp), if_pos (by omega), if_neg (by omega), List.append_nil, Nat.sub_self]
    rfl
  . rw [filter_nil (fun d hd => by rw [hl d hd]; simp; omega), List.nil_append]
    by_cases e2 : i < k
    . rw [if_pos (by omega), if_pos e2]
    . rw [if_neg (by omega), if_neg e2, show i - k = (i - (k + 1)) + 1 by omega]
      rfl
theorem wok_book {now : Int} {L : List (List TDue)} (hL : L.length = 96) (h : WOk now L) : L = Wh now L.flatten /\ BOk now L.flatten := by
 refine ⟨wh_ext hL fun i hi => ?_, h.n0, h.n1, h.len, fun d hd => ?_, h.ids⟩
 . rw [flat_cell i L 0 fun j l hj d hd => by rw [(h.at' j l hj d hd).2.2]; omega]
   rw [if_neg (by omega), Nat.sub_zero]
   exact getD_some (by omega)
 . obtain ⟨l, hl, hd⟩ := List.mem_flatten.1 hd
   obtain ⟨i, hi⟩ := List.mem_iff_getElem?.1 hl
   have := h.at' i l hi d hd
   exact ⟨this.1, this.2.1⟩
theorem book_wok {now : Int} {b : List TDue} (h : BOk now b) : WOk now (Wh now b) := by
 have hp := wh_perm now b
 refine ⟨h.n0, h.n1, by rw [hp.length_eq]; exact h.len, fun i l hi d hd => ?_, ?_⟩
 . have hlt := (List.getElem?_eq_some_iff.1 hi).1
   rw [Wh_len] at hlt
   rw [Wh_get now b hlt] at hi
   cases hi
   have := List.mem_filter.1 hd
   exact ⟨(h.at' d this.1).1, (h.at' d this.1).2, by simpa using this.2⟩
 . exact ((hp.map (·.id)).nodup_iff).2 h.ids

theorem mg_c (k : Int) (e : Int × Int) (r : List (Int × Int)) : mGet (0 : Nat) k (e :: r) = if k = e.1 then some e.2 else mGet (0 : Nat) k r := by
 have h := mGet_c (0 : Nat) k e r
 by_cases c : k = e.1
 . rw [if_pos c]; exact h.trans (if_pos (show decide (k = e.1) = true from decide_eq_true c))
 . rw [if_neg c]; exact h.trans (if_neg (show ¬ decide (k = e.1) = true by rw [decide_eq_false c]; decide))
theorem mp_c (k v : Int) (e : Int × Int) (r : List (Int × Int)) : mPut (0 : Nat) k v (e :: r) = if k = e.1 then ((k, v) :: r : List (Int × Int)) else e :: mPut (0 : Nat) k v r := by
 have h := mPut_c (0 : Nat) k v e r
 by_cases c : k = e.1
 . rw [if_pos c]; exact h.trans (if_pos (show decide (k = e.1) = true from decide_eq_true c))
 . rw [if_neg c]; exact h.trans (if_neg (show ¬ decide (k = e.1) = true by rw [decide_eq_false c]; decide))
theorem mget_put (k k' v : Int) (m : List (Int × Int)) : mGet (0 : Nat) k (mPut (0 : Nat) k' v m) = if k = k' then some v else mGet (0 : Nat) k m := by
 induction m with
 | nil => exact mg_c k (k', v) []
 | cons e m ih =>
  by_cases h1 : k' = e.1
  . have a := mp_c k' v e m
    rw [if_pos h1] at a
    refine (congrArg (mGet (0 : Nat) k) a).trans ?_
    refine (mg_c k (k', v) m).trans ?_
    by_cases h2 : k = k'
    . rw [if_pos h2, if_pos h2]
    . rw [if_neg h2, if_neg h2]
      refine Eq.symm ((mg_c k e m).trans (if_neg ?_))
      rw [<- h1]; exact h2
  . have a := mp_c k' v e m
    rw [if_neg h1] at a
    refine (congrArg (mGet (0 : Nat) k) a).trans ?_
    refine (mg_c k e (mPut (0 : Nat) k' v m)).trans ?_
    by_cases h2 : k = e.1
    . rw [if_pos h2, if_neg (by rw [h2]; exact fun q => h1 q.symm)]
      exact ((mg_c k e m).trans (if_pos h2)).symm
    . rw [if_neg h2, ih]
      by_cases h3 : k = k'
      . rw [if_pos h3, if_pos h3]
      . rw [if_neg h3, if_neg h3]
        exact ((mg_c k e m).trans (if_neg h2)).symm
def Seen (ids : List Int) (m : List (Int × Int)) : Prop := ∀ x : Int, (mGet (0 : Nat) x m).getD 0 = if x ∈ ids then 1 else 0
theorem seen_next {ids : List Int} {m : List (Int × Int)} (h : Seen ids m) {x : Int} (hx : x ∉ ids) : Seen (ids ++ [x]) (mPut (0 : Nat) x (IntKind.wrap IntKind.i64 (Option.getD (mGet (0 : Nat) x m) 0 + 1)) m) := by
 intro y
 rw [mget_put]
 have h0 := h x
 rw [if_neg hx] at h0
 by_cases e : y = x
 . rw [if_pos e, h0, if_pos (by simp [e])]; rfl
 . rw [if_neg e, h y]
   by_cases c : y ∈ ids
   . rw [if_pos c, if_pos (by simp [c])]
   . rw [if_neg c, if_neg (by simp [c, e])]
theorem seen_now {ids : List Int} {m : List (Int × Int)} (h : Seen ids m) (x : Int) : Option.getD (mGet (0 : Nat) x (mPut (0 : Nat) x (IntKind.wrap IntKind.i64 (Option.getD (mGet (0 : Nat) x m) 0 + 1)) m)) 0 = if x ∈ ids then 2 else 1 := by
 rw [mget_put, if_pos rfl, h x]
 split <;> rfl
theorem sameN_t {L : List (List TDue)} : decide (obB (sameN (14 : Nat) (95 : Nat) L) = (0 : Nat)) = true := by
 exact decide_eq_true (congrArg obB (sameN_true 14 95 L))
theorem sameN_a {L : List (List TDue)} {p : Prop} [Decidable p] (h : p) : (sameN (14 : Nat) (95 : Nat) L && decide p) = true := (Bool.and_eq_true _ _).mpr ⟨sameN_true 14 95 L, decide_eq_true h⟩
def Good (now : Int) (i : Nat) (d : TDue) : Prop := now < d.at' /\ d.at' < 16777216 /\ lst now d.at' = (i : Int)
theorem chk_in {now : Int} {i : Nat} {l : List TDue} {L : List (List TDue)} {ids : List Int} {m : List (Int × Int)} (h0 : 0 <= now) (h1 : now < 16777216) (hs : Seen ids m) (hn : ids.Nodup) (hl : l.length <= 100000) :
   (∃ m', Seen (ids ++ l.map (·.id)) m' /\ (ids ++ l.map (·.id)).Nodup /\ (∀ d ∈ l, Good now i d) /\ wCheck_loop16_10 (0, ((i : Int), (l, (L, ((i : Int), ((l.length : Int), (m, (now, (L, ()))))))))) = some (.inr (L, ((i : Int), (m', (now, (L, ()))))))) \/
   (¬ ((ids ++ l.map (·.id)).Nodup /\ ∀ d ∈ l, Good now i d) /\ wCheck_loop16_10 (0, ((i : Int), (l, (L, ((i : Int), ((l.length : Int), (m, (now, (L, ()))))))))) = some (.inl (4, ()))) := by
 unfold wCheck_loop16_10
 have main := loop_try (tag := 160010) (f := fun x => (wCheck_step16_10 x).eval) (l := l) (S := List (Int × Int)) (st := fun j s => ((j : Int), ((i : Int), (l, (L, ((i : Int), ((l.length : Int), (s, (now, (L, ()))))))))))
   (I := fun j s => Seen (ids ++ (l.take j).map (·.id)) s /\ (ids ++ (l.take j).map (·.id)).Nodup /\ ∀ d ∈ l.take j, Good now i d) (ok := fun j x s => Good now i x /\ x.id ∉ ids ++ (l.take j).map (·.id)) (bad := fun _ _ _ => .inl (4, ()))
   (out := fun s => .inr (L, ((i : Int), (s, (now, (L, ())))))) (fun j x s hx hI => ?_) (fun s hI => ?_) 18446744073709551616 m ⟨by simpa using hs, by simpa using hn, by simp⟩ (by omega)
 . rcases main with ⟨s, ⟨i1, i2, i3⟩, e⟩ | ⟨j, x, s, hx, ⟨i1, i2, i3⟩, hno, e⟩
   . rw [List.take_length] at i1 i2 i3
     exact .inl ⟨s, i1, i2, i3, e⟩
   . refine .inr ⟨fun hall => hno ⟨hall.2 x (List.mem_of_getElem? hx), ?_⟩, e⟩
     have hj := (List.getElem?_eq_some_iff.1 hx).1
     have e1 : l = l.take j ++ x :: l.drop (j + 1) := by
       obtain ⟨_, rfl⟩ := List.getElem?_eq_some_iff.1 hx
       rw [<- List.drop_eq_getElem_cons hj, List.take_append_drop]
     have h2 := hall.1
     rw [e1, List.map_append, List.map_cons, <- List.append_assoc] at h2
     intro hmem
     exact (List.nodup_append.1 h2).2.2 x.id hmem x.id (by simp) rfl
 . obtain ⟨i1, i2, i3⟩ := hI
   have hj := (List.getElem?_eq_some_iff.1 hx).1
   have htk : l.take (j + 1) = l.take j ++ [x] := by rw [List.take_add_one, hx]; rfl
   have hnx : IntKind.wrap IntKind.i64 ((j : Int) + 1) = ((j + 1 : Nat) : Int) := next_i64 j (by omega)
   have hsn := seen_now i1 x.id
   constructor
   . rintro ⟨⟨g1, g2, g3⟩, g4⟩
     refine ⟨(mPut (0 : Nat) x.id (IntKind.wrap IntKind.i64 (Option.getD (mGet (0 : Nat) x.id s) 0 + 1)) s : List (Int × Int)), ?_, ?_, ?_, ?_⟩
     . unfold wCheck_step16_10
       simp only
       refine ev_t (decide_eq_true (by omega)) (ev_g (decide_eq_true (by omega)) (ev_opt (b := x) (by rw [Int.toNat_natCast]; exact hx) (ev_f (decide_eq_false (by omega)) (ev_f (decide_eq_false (by omega)) (ev_opt (list_fn h0 h1 (by omega) g2 (by omega)) (ev_f ?_ (ev_f ?_ (ev_g sameN_t (ev_g sameN_t (ev_r ?_))))))))))
       . simp [g3]
       . rw [hsn, if_neg g4]; rfl
       . rw [hnx]
     . rw [htk, List.map_append, <- List.append_assoc]
       exact seen_next i1 g4
     . rw [htk, List.map_append, <- List.append_assoc]
       exact List.nodup_append.2 ⟨i2, by simp, fun a ha b hb => by rw [List.mem_map] at hb; obtain ⟨q, hq, rfl⟩ := hb; rw [List.mem_singleton] at hq; subst hq; exact fun e => g4 (e ▸ ha)⟩
     . intro d hd
       rw [htk] at hd
       rcases List.mem_append.1 hd with hd | hd
       . exact i3 d hd
       . rw [List.mem_singleton] at hd; subst hd; exact ⟨g1, g2, g3⟩
   . intro hno
     unfold wCheck_step16_10
     simp only
     refine ev_t (decide_eq_true (by omega)) (ev_g (decide_eq_true (by omega)) (ev_opt (b := x) (by rw [Int.toNat_natCast]; exact hx) ?_))
     by_cases g1 : x.at' <= now
     . exact ev_t (decide_eq_true g1) (ev_r rfl)
     by_cases g2 : 16777216 <= x.at'
     . exact ev_f (decide_eq_false g1) (ev_t (decide_eq_true g2) (ev_r rfl))
     refine ev_f (decide_eq_false g1) (ev_f (decide_eq_false g2) (ev_opt (list_fn h0 h1 (by omega) (by omega) (by omega)) ?_))
     by_cases g3 : lst now x.at' = (i : Int)
     . refine ev_f (by simp [g3]) (ev_t ?_ (ev_r rfl))
       have g4 : x.id ∈ ids ++ (l.take j).map (·.id) := by
         by_cases c : x.id ∈ ids ++ (l.take j).map (·.id)
         . exact c
         . exact absurd ⟨⟨by omega, by omega, g3⟩, c⟩ hno
       rw [hsn, if_pos g4]; rfl
     . exact ev_t (by simp [g3]) (ev_r rfl)
 . unfold wCheck_step16_10
   simp only
   exact ev_f (decide_eq_false (by omega)) (ev_g sameN_t (ev_g sameN_t (ev_r rfl)))
theorem get_int {L : List (List TDue)} (hL : L.length = 96) {i : Nat} (hi : i < 96) {l : List TDue} (h : L[i]? = some l) : L[Int.toNat (i : Int)]? = some l := by rw [Int.toNat_natCast]; exact h
theorem chk_out {now : Int} {L : List (List TDue)} (h0 : 0 <= now) (h1 : now < 16777216) (hL : L.length = 96) (hl : L.flatten.length <= 500) :
   (WOk now L /\ wCheck_loop16_7 (0, (L, ([], (now, (L, ()))))) = some (.inr ())) \/ (¬ WOk now L /\ wCheck_loop16_7 (0, (L, ([], (now, (L, ()))))) = some (.inl (4, ()))) := by
 have hlen : ∀ (i : Nat) (l : List TDue), L[i]? = some l -> l.length <= 500 := fun i l h => by
   have := List.Sublist.length_le (List.sublist_flatten_of_mem (List.mem_of_getElem? h))
   omega
 unfold wCheck_loop16_7
 have main := loop_try (tag := 160007) (f := fun x => (wCheck_step16_7 x).eval) (l := L) (S := List (Int × Int)) (st := fun j s => ((j : Int), (L, (s, (now, (L, ()))))))
   (I := fun j s => Seen ((L.take j).flatten.map (·.id)) s /\ ((L.take j).flatten.map (·.id)).Nodup /\ ∀ (i : Nat) (l : List TDue), i < j -> L[i]? = some l -> ∀ d ∈ l, Good now i d) (ok := fun j x s => ((L.take j).flatten.map (·.id) ++ x.map (·.id)).Nodup /\ ∀ d ∈ x, Good now j d) (bad := fun _ _ _ => .inl (4, ()))
   (out := fun s => .inr ()) (fun j x s hx hI => ?_) (fun s hI => ?_) 18446744073709551616 [] ⟨fun x => by simp [mGet, mIdx], by simp, fun i l hi => by omega⟩ (by omega)
 . rcases main with ⟨s, ⟨i1, i2, i3⟩, e⟩ | ⟨j, x, s, hx, ⟨i1, i2, i3⟩, hno, e⟩
   . rw [List.take_length] at i1 i2
     exact .inl ⟨⟨h0, h1, hl, fun i l hi d hd => i3 i l (List.getElem?_eq_some_iff.1 hi).1 hi d hd, i2⟩, e⟩
   . refine .inr ⟨fun hall => hno ⟨?_, hall.at' j x hx⟩, e⟩
     have hj := (List.getElem?_eq_some_iff.1 hx).1
     have e1 : L = L.take j ++ x :: L.drop (j + 1) := by
       obtain ⟨_, rfl⟩ := List.getElem?_eq_some_iff.1 hx
       rw [<- List.drop_eq_getElem_cons hj, List.take_append_drop]
     have h2 := hall.ids
     rw [e1, List.flatten_append, List.flatten_cons, List.map_append, List.map_append, <- List.append_assoc] at h2
     exact (List.nodup_append.1 h2).1
 . obtain ⟨i1, i2, i3⟩ := hI
   have hj := (List.getElem?_eq_some_iff.1 hx).1
   have htk : (L.take (j + 1)).flatten.map (·.id) = (L.take j).flatten.map (·.id) ++ x.map (·.id) := by rw [List.take_add_one, hx, List.flatten_append]; simp
   have hnx : IntKind.wrap IntKind.i64 ((j : Int) + 1) = ((j + 1 : Nat) : Int) := next_i64 j (by omega)
   have hs : ∀ r, (∃ z, wCheck_loop16_10 (0, ((j : Int), (x, (L, ((j : Int), ((x.length : Int), (s, (now, (L, ()))))))))) = some z /\
       (match z with | .inl b => some (Sum.inr (Sum.inl (b.1, ()))) | .inr c => some (Sum.inl (IntKind.wrap IntKind.i64 (c.2.1 + 1), (c.1, (c.2.2.1, (c.2.2.2.1, (c.2.2.2.2.1, ()))))))) = r) -> (wCheck_step16_7 ((j : Int), (L, (s, (now, (L, ())))))).eval = r := by
     rintro r ⟨z, hz, rfl⟩
     unfold wCheck_step16_7
     simp only
     refine ev_t (decide_eq_true (by omega)) (ev_g (sameN_a (by omega)) (ev_opt (get_int hL (by omega) hx) (ev_g sameN_t (ev_g sameN_t (ev_opt hz ?_)))))
     cases z with
     | inl b => rfl
     | inr c => exact ev_g sameN_t (ev_g sameN_t rfl)
   rcases chk_in (i := j) (L := L) h0 h1 i1 i2 (Nat.le_trans (hlen j x hx) (by omega)) with ⟨m', k1, k2, k3, k4⟩ | ⟨k1, k2⟩
   . refine ⟨fun _ => ⟨m', hs _ ⟨_, k4, ?_⟩, by rw [htk]; exact k1, by rw [htk]; exact k2, fun i l hi hil d hd => ?_⟩, fun hno => absurd ⟨k2, k3⟩ hno⟩
     . simp only; rw [hnx]
     . by_cases e : i = j
       . subst e; rw [hx] at hil; cases hil; exact k3 d hd
       . exact i3 i l (by omega) hil d hd
   . exact ⟨fun hok => absurd hok k1, fun _ => hs _ ⟨_, k2, rfl⟩⟩
 . unfold wCheck_step16_7
   simp only
   exact ev_f (decide_eq_false (by rw [hL]; decide)) (ev_r rfl)
def Small (L : List (List TDue)) : Prop := ∀ (i : Nat) (l : List TDue), L[i]? = some l -> l.length * 16 <= 140737488351232
theorem count_fn {now : Int} {L : List (List TDue)} (hL : L.length = 96) (hs : Small L) : wCount_fn (now, (L, ())) = some ((L.flatten.length : Int), ()) := by
 have hfl : ∀ (l : List (List TDue)) (s : Int), l.foldl (fun s x => s + (x.length : Int)) s = s + (l.flatten.length : Int) := by
  intro l
  induction l with
  | nil => intro s; simp
  | cons x l ih => intro s; rw [List.foldl_cons, ih, List.flatten_cons, List.length_append]; omega
 have hloop : wCount_loop25_3 (0, (0, (L, ()))) = some ((L.flatten.length : Int), ()) := by
  unfold wCount_loop25_3
  have := (loop_fold (tag := 250003) (f := fun x => (wCount_step25_3 x).eval) (l := L) (S := Int) (st := fun i s => ((i : Int), (s, (L, ())))) (I := fun i s => 0 <= s /\ s <= (i : Int) * 8796093022208) (g := fun s x => s + (x.length : Int)) (out := fun s => (s, ()))
    (fun i x s hx hI => ?_) (fun s hI => ?_) 18446744073709551616 0 ⟨by decide, by decide⟩ (by omega)).1
  . rw [hfl] at this
    simpa using this
  . have hi := (List.getElem?_eq_some_iff.1 hx).1
    have hx2 := hs i x hx
    refine ⟨?_, by omega, by omega⟩
    unfold wCount_step25_3
    simp only
    refine ev_t (decide_eq_true (by omega)) (ev_g (sameN_a (by omega)) (ev_opt (get_int hL (by omega) hx) (ev_g sameN_t (ev_r ?_))))
    rw [next_i64 i (by omega), wri _ (by omega)]
  . unfold wCount_step25_3
    simp only
    exact ev_f (decide_eq_false (by rw [hL]; decide)) (ev_r rfl)
 unfold wCount_fn wCount_tree
 exact ev_g sameN_t (ev_opt hloop (ev_r rfl))
theorem check_fn {now : Int} {L : List (List TDue)} (hL : L.length = 96) (hs : Small L) : ∃ e : Int, wCheck_fn (now, (L, ())) = some (e, ()) /\ (e = 0 ↔ WOk now L) := by
 unfold wCheck_fn wCheck_tree
 simp only
 by_cases c : (500 : Int) < (L.flatten.length : Int)
 . exact ⟨2, ev_g sameN_t (ev_opt (count_fn hL hs) (ev_t (decide_eq_true c) (ev_r rfl))), by constructor; (intro h; cases h); (intro h; have := h.len; omega)⟩
 by_cases c1 : now < 0
 . exact ⟨1, ev_g sameN_t (ev_opt (count_fn hL hs) (ev_f (decide_eq_false c) (ev_t (decide_eq_true c1) (ev_r rfl)))), by constructor; (intro h; cases h); (intro h; have := h.n0; omega)⟩
 by_cases c2 : 16777216 <= now
 . exact ⟨1, ev_g sameN_t (ev_opt (count_fn hL hs) (ev_f (decide_eq_false c) (ev_f (decide_eq_false c1) (ev_t (decide_eq_true c2) (ev_r rfl))))), by constructor; (intro h; cases h); (intro h; have := h.n1; omega)⟩
 rcases chk_out (now := now) (L := L) (by omega) (by omega) hL (by omega) with ⟨h, e⟩ | ⟨h, e⟩
 . exact ⟨0, ev_g sameN_t (ev_opt (count_fn hL hs) (ev_f (decide_eq_false c) (ev_f (decide_eq_false c1) (ev_f (decide_eq_false c2) (ev_g sameN_t (ev_g sameN_t (ev_opt e rfl))))))), by simp [h]⟩
 . exact ⟨4, ev_g sameN_t (ev_opt (count_fn hL hs) (ev_f (decide_eq_false c) (ev_f (decide_eq_false c1) (ev_f (decide_eq_false c2) (ev_g sameN_t (ev_g sameN_t (ev_opt e rfl))))))), by constructor; (intro h; cases h); (intro h'; exact absurd h' h)⟩
theorem set_id {α : Type} {L : List α} {i : Nat} {x : α} (h : L[i]? = some x) : L.set i x = L := by
 apply List.ext_getElem?
 intro j
 by_cases e : i = j
 . subst e; rw [List.getElem?_set_self (List.getElem?_eq_some_iff.1 h).1, h]
 . rw [List.getElem?_set_ne e]
theorem own_fn {now : Int} {L : List (List TDue)} (hL : L.length = 96) (hs : Small L) : wOwn_fn (now, (L, ())) = some (now, (96, (L, ()))) := by
 have hloop : wOwn_loop22_2 (0, (now, (0, (List.replicate 96 [], (0, (L, ())))))) = some (0, (List.replicate 96 [], (now, (96, (L, ()))))) := by
  unfold wOwn_loop22_2
  have := loop_hit (tag := 220002) (f := fun x => (wOwn_step22_2 x).eval) (l := L) (fun i => ((i : Int), (now, ((0 : Int), (List.replicate 96 [], (i, (L, ()))))))) (fun _ => false) (fun _ => (0, (List.replicate 96 [], (now, (96, (L, ())))))) (fun i x hx => ?_) ?_ 18446744073709551616 (by omega)
  . exact this
  . have hi := (List.getElem?_eq_some_iff.1 hx).1
    have hx2 := hs i x hx
    unfold wOwn_step22_2
    simp only
    refine ev_t (decide_eq_true (by omega)) (ev_g (decide_eq_true (by omega)) (ev_g (decide_eq_true (by omega)) (ev_opt (get_int hL (by omega) hx) (ev_g (decide_eq_true (by omega)) (ev_g (decide_eq_true (by omega)) (ev_g (decide_eq_true (by omega)) (ev_g sameN_t (ev_r ?_))))))))
    rw [next_i64 i (by omega), Int.toNat_natCast, set_id hx]
  . unfold wOwn_step22_2
    simp only
    refine ev_f (decide_eq_false (by rw [hL]; decide)) (ev_g sameN_t (ev_r ?_))
    rw [hL]
 unfold wOwn_fn wOwn_tree
 refine ev_g rfl (ev_opt (b := (0, (List.replicate 96 [], (now, (96, (L, ())))))) ?_ (ev_r rfl))
 have e : gdN (14 : Nat) (96 : Nat) L = L := gdN_eq (c := 14) hL
 exact (congrArg (fun z => wOwn_loop22_2 (0, (now, (0, (List.replicate 96 [], (0, (z, ()))))))) e).trans hloop
theorem wh_small {now : Int} {b : List TDue} (hb : b.length <= 500) : Small (Wh now b) := fun i l h => by have := wh_lens hb i l h; omega
theorem check_ok {now : Int} {b : List TDue} (h : BOk now b) : wCheck_fn (now, (Wh now b, ())) = some (0, ()) := by
 obtain ⟨e, h1, h2⟩ := check_fn (now := now) (Wh_len now b) (wh_small h.len)
 rw [h1, h2.2 (book_wok h)]
theorem check_cases {now : Int} {L : List (List TDue)} (hL : L.length = 96) (hs : Small L) : (∃ b, BOk now b /\ L = Wh now b) \/ ∃ e : Int, e ≠ 0 /\ wCheck_fn (now, (L, ())) = some (e, ()) := by
 obtain ⟨e, h1, h2⟩ := check_fn (now := now) hL hs
 by_cases c : e = 0
 . obtain ⟨w1, w2⟩ := wok_book hL (h2.1 c)
   exact .inl ⟨_, w2, w1⟩
 . exact .inr ⟨e, c, h1⟩
theorem count_ok {now : Int} {b : List TDue} (h : BOk now b) : wCount_fn (now, (Wh now b, ())) = some ((b.length : Int), ()) := by
 rw [count_fn (Wh_len now b) (wh_small h.len), (wh_perm now b).length_eq]

def hasId (id : Int) (d : TDue) : Bool := decide (d.id = id)
theorem find_in (id : Int) (l : List TDue) (hl : l.length <= 1000) : wFind_loop17_2 (0, (l, ((l.length : Int), (id, ())))) = some (match hit (hasId id) l with | some q => .inl ((q.1 : Int), (id, ())) | none => .inr (id, ())) := by
 unfold wFind_loop17_2
 refine loop_hit (tag := 170002) (f := fun x => (wFind_step17_2 x).eval) (l := l) (fun i => ((i : Int), (l, ((l.length : Int), (id, ()))))) (hasId id) (fun o => match o with | some q => .inl ((q.1 : Int), (id, ())) | none => .inr (id, ())) (fun i x hx => ?_) ?_ 18446744073709551616 (by omega)
 . have hi := (List.getElem?_eq_some_iff.1 hx).1
   unfold wFind_step17_2 hasId
   simp only
   refine ev_t (decide_eq_true (by omega)) (ev_g (decide_eq_true (by omega)) (ev_opt (b := x) (by rw [Int.toNat_natCast]; exact hx) ?_))
   by_cases e : x.id = id
   . rw [decide_eq_true e]; exact ev_t rfl (ev_r rfl)
   . rw [decide_eq_false e]; exact ev_f rfl (ev_r (by rw [next_i64 i (by omega)]))
 . unfold wFind_step17_2
   simp only
   exact ev_f (decide_eq_false (by omega)) (ev_r rfl)
theorem find_fn {now : Int} {L : List (List TDue)} (id : Int) (hL : L.length = 96) (hs : ∀ (i : Nat) (l : List TDue), L[i]? = some l -> l.length <= 1000) :
  wFind_fn (now, (L, (id, ()))) = some (match hit (fun l => (hit (hasId id) l).isSome) L with | some q => ((q.1 : Int), ((((hit (hasId id) q.2).map (·.1)).getD 0 : Nat), ())) | none => (-1, (0, ()))) := by
 have hloop : wFind_loop24_2 (0, (L, (id, ()))) = some (match hit (fun l => (hit (hasId id) l).isSome) L with | some q => .inl ((q.1 : Int), (((((hit (hasId id) q.2).map (·.1)).getD 0 : Nat) : Int), ())) | none => .inr ()) := by
  unfold wFind_loop24_2
  refine loop_hit (tag := 240002) (f := fun x => (wFind_step24_2 x).eval) (l := L) (fun i => ((i : Int), (L, (id, ())))) (fun l => (hit (hasId id) l).isSome) (fun o => match o with | some q => .inl ((q.1 : Int), (((((hit (hasId id) q.2).map (·.1)).getD 0 : Nat) : Int), ())) | none => .inr ()) (fun i x hx => ?_) ?_ 18446744073709551616 (by omega)
  . have hi := (List.getElem?_eq_some_iff.1 hx).1
    unfold wFind_step24_2
    simp only
    refine ev_t (decide_eq_true (by omega)) (ev_g (sameN_a (by omega)) (ev_opt (get_int hL (by omega) hx) (ev_opt (find_in id x (hs i x hx)) ?_)))
    cases h : hit (hasId id) x with
    | some q => exact ev_t (decide_eq_true (by omega)) (ev_r rfl)
    | none => exact ev_f rfl (ev_g sameN_t (ev_r (by rw [next_i64 i (by omega)])))
  . unfold wFind_step24_2
    simp only
    exact ev_f (decide_eq_false (by rw [hL]; decide)) (ev_r rfl)
 unfold wFind_fn wFind_tree
 refine ev_g sameN_t (ev_opt hloop ?_)
 cases hit (fun l => (hit (hasId id) l).isSome) L <;> rfl
theorem find_no {now : Int} {b : List TDue} (h : BOk now b) {id : Int} (hid : id ∉ b.map (·.id)) : wFind_fn (now, (Wh now b, (id, ()))) = some (-1, (0, ())) := by
 rw [find_fn id (Wh_len now b) fun i l hl => by have := wh_lens h.len i l hl; omega]
 have : hit (fun l => (hit (hasId id) l).isSome) (Wh now b) = none := hit_none.2 fun l hl => by
  have hn : hit (hasId id) l = none := hit_none.2 fun d hd => by
   unfold Wh at hl
   obtain ⟨i, _, rfl⟩ := List.mem_map.1 hl
   refine decide_eq_false fun e => hid (List.mem_map.2 ⟨d, (List.mem_filter.1 hd).1, e⟩)
  rw [hn]; rfl
 rw [this]
theorem find_yes {now : Int} {b : List TDue} (h : BOk now b) {id : Int} (hid : id ∈ b.map (·.id)) :
  ∃ (i k : Nat) (d : TDue), i < 96 /\ (cell now b i)[k]? = some d /\ d.id = id /\ wFind_fn (now, (Wh now b, (id, ()))) = some ((i : Int), ((k : Int), ())) := by
 rw [find_fn id (Wh_len now b) fun i l hl => by have := wh_lens h.len i l hl; omega]
 cases hh : hit (fun l => (hit (hasId id) l).isSome) (Wh now b) with
 | none =>
  exfalso
  obtain ⟨d, hd, rfl⟩ := List.mem_map.1 hid
  have hb := lst_bound now d.at'
  have h1 := hit_none.1 hh (cell now b (lst now d.at').toNat) (List.mem_iff_getElem?.2 ⟨_, Wh_get now b (by omega)⟩)
  cases h2 : hit (hasId d.id) (cell now b (lst now d.at').toNat) with
  | none =>
   have := hit_none.1 h2 d (List.mem_filter.2 ⟨hd, decide_eq_true (by omega)⟩)
   unfold hasId at this
   simp at this
  | some q => rw [h2] at h1; cases h1
 | some q =>
  obtain ⟨i, l⟩ := q
  obtain ⟨h1, h2⟩ := hit_at hh
  have hi := (List.getElem?_eq_some_iff.1 h1).1
  rw [Wh_len] at hi
  rw [Wh_get now b hi] at h1
  cases h1
  obtain ⟨q, hq⟩ := Option.isSome_iff_exists.1 h2
  obtain ⟨k, d⟩ := q
  obtain ⟨h3, h4⟩ := hit_at hq
  exact ⟨i, k, d, hi, h3, of_decide_eq_true h4, by simp only [hq]; rfl⟩

def CanSet (now : Int) (b : List TDue) (id a : Int) : Prop := now < a /\ a < 16777216 /\ id ∉ b.map (·.id) /\ b.length < 500
theorem CanSet.ok {now id a : Int} {b : List TDue} (h : BOk now b) (hc : CanSet now b id a) : BOk now (b ++ [⟨id, a⟩]) := by
 obtain ⟨c1, c2, c3, c4⟩ := hc
 refine ⟨h.n0, h.n1, by simp; omega, fun d hd => ?_, ?_⟩
 . rcases List.mem_append.1 hd with hd | hd
   . exact h.at' d hd
   . rw [List.mem_singleton] at hd; subst hd; exact ⟨c1, c2⟩
 . rw [List.map_append]
   refine List.nodup_append.2 ⟨h.ids, by simp, fun x hx y hy => ?_⟩
   simp at hy
   subst hy
   exact fun e => c3 (e ▸ hx)
def No (r : Option (Int × (List (List TDue) × (Int × Unit)))) : Prop := ∃ e : Int, e ≠ 0 /\ r = some (0, (List.replicate 96 [], (e, ())))
theorem del_ok (l : List TDue) (i : Nat) (hi : i < l.length) : delDue_fn ((i : Int), (((i + 1 : Nat) : Int), (l, ()))) = some (l.take i ++ l.drop (i + 1), ()) := by
 unfold delDue_fn delDue_tree
 have hj : Int.toNat ((l.length : Int) - ((i + 1 : Nat) : Int)) = l.length - (i + 1) := by omega
 have hB : (List.take (l.length - (i + 1)) (List.drop (i + 1) l)).length = l.length - (i + 1) := by simp
 simp only [Int.toNat_natCast, hj]
 refine ev_g (by simp <;> omega) (ev_f (by simp <;> omega) (ev_g (by simp <;> omega) (ev_g (by simp <;> omega) (ev_g (by simp <;> omega) (ev_g (by rw [hB]; simp; omega) ?_)))))
 refine ev_g (by simp [hB]; omega) (ev_g (by simp [hB]; omega) (ev_g (by simp [hB]; omega) (ev_r ?_)))
 simp only [del_eq l i (i + 1) (by omega) (by omega)]
def but (id : Int) (b : List TDue) : List TDue := b.filter fun d => !hasId id d
def after (now : Int) (b : List TDue) (t : Nat) : List TDue := b.filter fun d => decide (now + (t : Int) < d.at')
def dues (now : Int) (b : List TDue) : Nat -> List TDue
 | 0 => []
 | t + 1 => dues now b t ++ b.filter fun d => decide (d.at' = now + ((t + 1 : Nat) : Int))
theorem after_0 {now : Int} {b : List TDue} (h : BOk now b) : after now b 0 = b := List.filter_eq_self.2 fun d hd => decide_eq_true (by have := h.at' d hd; omega)
theorem after_ok {now : Int} {b : List TDue} (h : BOk now b) (t : Nat) (ht : now + (t : Int) < 16777216) : BOk (now + (t : Int)) (after now b t) :=
 ⟨by have := h.n0; omega, ht, Nat.le_trans (List.length_filter_le _ _) h.len, fun d hd => ⟨of_decide_eq_true (List.mem_filter.1 hd).2, (h.at' d (List.mem_filter.1 hd).1).2⟩, h.ids.sublist (List.Sublist.map _ List.filter_sublist)⟩
theorem after_after (now : Int) (b : List TDue) (s t : Nat) : after (now + (s : Int)) (after now b s) t = after now b (s + t) := by
 unfold after
 rw [List.filter_filter]
 apply filter_same
 intro d _
 by_cases c : now + ((s + t : Nat) : Int) < d.at'
 . rw [decide_eq_true c, decide_eq_true (by omega), decide_eq_true (by omega)]; rfl
 . rw [decide_eq_false c, decide_eq_false (by omega)]; rfl
theorem split_len (m : Int) (b : List TDue) : (b.filter fun d => decide (m < d.at')).length = (b.filter fun d => decide (m + 1 < d.at')).length + (b.filter fun d => decide (d.at' = m + 1)).length := by
 induction b with
 | nil => rfl
 | cons d b ih =>
  rw [List.filter_cons, List.filter_cons, List.filter_cons]
  by_cases c1 : m + 1 < d.at'
  . rw [if_pos (by simp <;> omega), if_pos (by simp <;> omega), if_neg (by simp <;> omega), List.length_cons, List.length_cons, ih]; omega
  . by_cases c2 : d.at' = m + 1
    . rw [if_pos (by simp <;> omega), if_neg (by simp <;> omega), if_pos (by simp <;> omega), List.length_cons, List.length_cons, ih]; omega
    . rw [if_neg (by simp <;> omega), if_neg (by simp <;> omega), if_neg (by simp <;> omega), ih]
theorem dues_len {now : Int} {b : List TDue} (h : BOk now b) : ∀ t, (dues now b t).length + (after now b t).length = b.length
 | 0 => by rw [after_0 h]; simp [dues]
 | t + 1 => by
  have ih := dues_len h t
  have hs := split_len (now + (t : Int)) b
  show (dues now b t ++ _).length + _ = _
  rw [List.length_append]
  unfold after at ih ⊢
  have e : now + ((t + 1 : Nat) : Int) = now + (t : Int) + 1 := by omega
  simp only [e]
  omega
theorem tick_loop {now : Int} {b : List TDue} (h : BOk now b) (n : Nat) (hn : now + (n : Int) < 16777216) :
   wTick_loop7_9 (0, ((n : Int), (now, ([], (0, (List.replicate 96 [], (96, (Wh now b, ())))))))) = some (0, (List.replicate 96 [], (dues now b n, (now + (n : Int), (96, (Wh (now + (n : Int)) (after now b n), ())))))) := by
 have hn0 := h.n0
 unfold wTick_loop7_9
 have := loop_hit (tag := 70009) (f := fun x => (wTick_step7_9 x).eval) (l := List.range n) (fun i => ((i : Int), ((n : Int), (now + (i : Int), (dues now b i, ((0 : Int), (List.replicate 96 [], (96, (Wh (now + (i : Int)) (after now b i), ()))))))))) (fun _ => false)
   (fun _ => (0, (List.replicate 96 [], (dues now b n, (now + (n : Int), (96, (Wh (now + (n : Int)) (after now b n), ()))))))) (fun i x hx => ?_) ?_ 18446744073709551616 (by simp <;> omega)
 . have e0 : now + ((0 : Nat) : Int) = now := by omega
   simp only [e0, after_0 h] at this
   exact this
 . have hi := (List.getElem?_eq_some_iff.1 hx).1
   rw [List.length_range] at hi
   have hA := after_ok h i (by omega)
   have hl := dues_len h i
   have hl2 := dues_len h (i + 1)
   have hbl := h.len
   have e1 : now + ((i + 1 : Nat) : Int) = now + (i : Int) + 1 := by omega
   have e2 : (after now b i).filter (fun d => decide (now + (i : Int) + 1 < d.at')) = after now b (i + 1) := by
    have := after_after now b i 1
    rw [<- this]
    unfold after
    congr 1
   have e3 : (after now b i).filter (fun d => decide (d.at' = now + (i : Int) + 1)) = b.filter (fun d => decide (d.at' = now + ((i + 1 : Nat) : Int))) := by
    unfold after
    rw [List.filter_filter]
    apply filter_same
    intro d _
    rw [e1]
    by_cases c : d.at' = now + (i : Int) + 1
    . rw [decide_eq_true c, decide_eq_true (by omega)]; rfl
    . rw [decide_eq_false c]; rfl
   have ht := turn_fn hA (by omega)
   rw [e2, e3] at ht
   have hd : dues now b (i + 1) = dues now b i ++ b.filter (fun d => decide (d.at' = now + ((i + 1 : Nat) : Int))) := rfl
   rw [hd, List.length_append] at hl2
   unfold wTick_step7_9
   simp only
   refine ev_t (decide_eq_true (by omega)) (ev_opt ht (ev_g (decide_eq_true (by dsimp only; omega)) (ev_g (by simp) (ev_g sameN_t (ev_r ?_)))))
   rw [next_i64 i (by omega), hd, e1]
 . unfold wTick_step7_9
   simp only [List.length_range]
   exact ev_f (decide_eq_false (by omega)) (ev_g (by simp) (ev_g sameN_t (ev_r rfl)))
end Go.Proofs.Ytnhiilbmgkbbaaa.X
namespace Go.Proofs.Ytnhiilbmgkbbaaa.Abs
open Go Go.RowKit Go.Proofs.Ytnhiilbmgkbbaaa.Read
set_option linter.unusedVariables false
def ShAll (Q : TypeId -> List D -> Prop) : List TypeId -> List D -> Prop
 | [], ds => ds = []
 | t :: r, ds => ∃ a b, ds = a ++ b /\ Q t a /\ ShAll Q r b

def Sh (P : Program) : Nat -> TypeId -> List D -> Prop
 | 0, _, _ => False
 | n + 1, t, ds => match P.underlying t with
  | some .bool => ∃ b, ds = [.b b]
  | some (.int k) => ∃ x, ds = [.i k x] /\ k.min <= x /\ x <= k.max
  | some .string => ∃ l : List UInt8, ds = [.s l] /\ l.length <= 140737488351232
  | some (.struct fs) => ShAll (Sh P n) (fs.toList.map (·.type)) ds
  | some (.array m e) => ShAll (Sh P n) (List.replicate m e) ds
  | some (.slice e) => ∃ rows, ds = [.sl (P.cellsOf e) rows] /\ rows.length <= maxLen /\ rows.length * P.bytesOf e <= 140737488351232 /\ ∀ r ∈ rows, Sh P n e r
  | _ => False

def contig (P : Program) : List Field -> Nat -> Option Nat
 | [], o => some o
 | f :: r, o => if f.offset = o then contig P r (o + P.cellsOf f.type) else none

def okT (P : Program) : Nat -> TypeId -> Bool
 | 0, _ => false
 | n + 1, t => match P.underlying t with
  | some .bool | some (.int _) | some .string => true
  | some (.struct fs) => contig P fs.toList 0 == some (P.cellsOf t) && fs.toList.all (fun f => okT P n f.type)
  | some (.array m e) => P.cellsOf t == m * P.cellsOf e && okT P n e
  | some (.slice e) => decide (0 < P.cellsOf e) && okT P n e
  | _ => false

def RepAll (w : World) (U : Nat -> Prop) : List Value -> List D -> Prop
 | [], [] => True
 | v :: r, d :: q => RepI w U v d /\ RepAll w U r q
 | _, _ => False
theorem RepAll.length {w : World} {U : Nat -> Prop} : ∀ {l : List Value} {q : List D}, RepAll w U l q -> l.length = q.length
 | [], [], _ => rfl
 | v :: r, d :: q, h => by simp [RepAll.length h.2]
 | [], d :: q, h => h.elim
 | v :: r, [], h => h.elim
theorem RepAll.app {w : World} {U : Nat -> Prop} : ∀ {l l2 : List Value} {q q2 : List D}, RepAll w U l q -> RepAll w U l2 q2 -> RepAll w U (l ++ l2) (q ++ q2)
 | [], l2, [], q2, _, h2 => h2
 | v :: r, l2, d :: q, q2, h, h2 => ⟨h.1, RepAll.app h.2 h2⟩
 | [], l2, d :: q, q2, h, h2 => h.elim
 | v :: r, l2, [], q2, h, h2 => h.elim
theorem RepAll.at {w : World} {U : Nat -> Prop} : ∀ {l : List Value} {q : List D}, RepAll w U l q -> ∀ (j : Nat) v d, l[j]? = some v -> q[j]? = some d -> RepI w U v d
 | v :: r, d :: q, h, 0, v', d', h1, h2 => by simp at h1 h2; subst h1; subst h2; exact h.1
 | v :: r, d :: q, h, j + 1, v', d', h1, h2 => RepAll.at h.2 j v' d' (by simpa using h1) (by simpa using h2)
 | [], [], h, j, v', d', h1, h2 => by simp at h1
 | [], d :: q, h, j, v', d', h1, h2 => h.elim
 | v :: r, [], h, j, v', d', h1, h2 => h.elim

theorem struct_all {P : Program} {w : World} {U : Nat -> Prop} {cs : List Value} {n : Nat} (ih : ∀ t l, okT P n t = true -> Rd P w t l -> ∃ ds, RepAll w U l ds /\ Sh P n t ds) :
  ∀ (fs : List Field) (o tot : Nat), contig P fs o = some tot -> tot = cs.length -> (∀ f ∈ fs, okT P n f.type = true /\ Rd P w f.type ((cs.drop f.offset).take (P.cellsOf f.type))) ->
    ∃ ds, RepAll w U (cs.drop o) ds /\ ShAll (Sh P n) (fs.map (·.type)) ds
 | [], o, tot, h, ht, _ => by
  simp only [contig, Option.some.injEq] at h
  subst h; subst ht
  exact ⟨[], by simp [RepAll], rfl⟩
 | f :: r, o, tot, h, ht, hf => by
  unfold contig at h
  split at h
  . rename_i e
    obtain ⟨h1, h2⟩ := hf f List.mem_cons_self
    obtain ⟨d1, k1, k2⟩ := ih _ _ h1 h2
    obtain ⟨d2, k3, k4⟩ := struct_all ih r _ tot h ht fun g hg => hf g (List.mem_cons_of_mem _ hg)
    refine ⟨d1 ++ d2, ?_, d1, d2, rfl, k2, k4⟩
    have := k1.app k3
    rw [e, <- List.drop_drop, List.take_append_drop] at this
    exact this
  . cases h

theorem array_all {P : Program} {w : World} {U : Nat -> Prop} {cs : List Value} {n : Nat} {e : TypeId} (ih : ∀ l, Rd P w e l -> ∃ ds, RepAll w U l ds /\ Sh P n e ds) :
  ∀ (m k : Nat), (k + m) * P.cellsOf e = cs.length -> (∀ i, i < k + m -> Rd P w e ((cs.drop (i * P.cellsOf e)).take (P.cellsOf e))) ->
   ∃ ds, RepAll w U (cs.drop (k * P.cellsOf e)) ds /\ ShAll (Sh P n) (List.replicate m e) ds
 | 0, k, h, _ => ⟨[], by rw [List.drop_eq_nil_of_le (by rw [<- h]; exact Nat.le_refl _)]; trivial, rfl⟩
 | m + 1, k, h, hf => by
  obtain ⟨d1, k1, k2⟩ := ih _ (hf k (by omega))
  obtain ⟨d2, k3, k4⟩ := array_all ih m (k + 1) (by rw [<- h]; congr 1; omega) fun i hi => hf i (by omega)
  refine ⟨d1 ++ d2, ?_, d1, d2, rfl, k2, k4⟩
  have := k1.app k3
  rw [show (k + 1) * P.cellsOf e = k * P.cellsOf e + P.cellsOf e by rw [Nat.succ_mul], <- List.drop_drop, List.take_append_drop] at this
  exact this


theorem bounds_wf {k : IntKind} {x : Int} (h : (Lit.int k x).wf = true) : k.min <= x /\ x <= k.max := by
 cases k <;> (simp only [Lit.wf, Bool.and_eq_true, decide_eq_true_eq] at h; exact h)

theorem rd_rep {P : Program} {w : World} {U : Nat -> Prop} (hU : ∀ b, b < w.heap.size -> U b) : ∀ (n : Nat) (t : TypeId) (cs : List Value), okT P n t = true -> Rd P w t cs -> ∃ ds, RepAll w U cs ds /\ Sh P n t ds
 | 0, t, cs, h, _ => by simp [okT] at h
 | n + 1, t, cs, h, hr => by
  unfold okT at h
  split at h
  . rename_i ht
    obtain ⟨b, rfl⟩ := hr.bool ht
    simp only [Sh, ht]
    exact ⟨[.b b], ⟨.b b, trivial⟩, b, rfl⟩
  . rename_i k ht
    obtain ⟨x, rfl, hx⟩ := hr.int ht
    simp only [Sh, ht]
    exact ⟨[.i k x], ⟨.i k x, trivial⟩, x, rfl, bounds_wf hx⟩
  . rename_i ht
    obtain ⟨s, rfl, hs⟩ := hr.string ht
    simp only [Sh, ht]
    refine ⟨[.s s.data.toList], ⟨?_, trivial⟩, _, rfl, by rw [Array.length_toList]; exact hs⟩
    exact RepI.s s.data.toList
  . rename_i fs ht
    simp only [Sh, ht]
    simp only [Bool.and_eq_true, beq_iff_eq, List.all_eq_true] at h
    obtain ⟨hl, hf⟩ := hr.struct ht
    obtain ⟨ds, h1, h2⟩ := struct_all (U := U) (n := n) (fun t l => rd_rep hU n t l) fs.toList 0 _ h.1 hl.symm fun f hf' => by
      obtain ⟨i, hi, rfl⟩ := List.getElem_of_mem hf'
      exact ⟨h.2 _ (List.getElem_mem _), hf i _ (by simp)⟩
    exact ⟨ds, h1, h2⟩
  . rename_i m e ht
    simp only [Sh, ht]
    simp only [Bool.and_eq_true, beq_iff_eq] at h
    obtain ⟨hl, hf⟩ := hr.array ht
    obtain ⟨ds, h1, h2⟩ := array_all (U := U) (n := n) (fun l => rd_rep hU n e l h.2) m 0 (by rw [hl, h.1, Nat.zero_add]) fun i hi => hf i (by omega)
    exact ⟨ds, by simpa using h1, h2⟩
  . rename_i e ht
    simp only [Sh, ht]
    obtain ⟨a, len, cap, rfl, hlc, hcm, hcb, hn, hx⟩ := hr.slice ht
    have hb : ∀ l : Nat, l <= cap -> l * P.bytesOf e <= 140737488351232 := fun l hl => Nat.le_trans (Nat.mul_le_mul_right _ hl) hcb
    by_cases h0 : len = 0
    . subst h0
      exact ⟨[.sl (P.cellsOf e) []], ⟨.nil a cap _ hn, trivial⟩, [], rfl, by simp, by simp, by simp⟩
    . cases a with
      | none => have := hn rfl; omega
      | some x =>
       obtain ⟨vals, hvl, hv⟩ := exists_list (P := fun i (p : List Value × List D) => w.cells? 0 (x.add (i * P.cellsOf e)) (P.cellsOf e) = some p.1 /\ RepAll w U p.1 p.2 /\ Sh P n e p.2) len fun i hi => by
         obtain ⟨row, h1, h2⟩ := hx x rfl i (by omega)
         obtain ⟨ds, h3, h4⟩ := rd_rep hU n e row (by simp at h; exact h.2) h2
         exact ⟨(row, ds), h1, h3, h4⟩
       refine ⟨[.sl (P.cellsOf e) (vals.map (·.2))], ⟨?_, trivial⟩, _, rfl, by simp; omega, by simp only [List.length_map, hvl]; exact hb len hlc, ?_⟩
       . by_cases hz : P.cellsOf e = 0
         . simp [hz] at h
         . have hx0 := hv 0 (by omega)
           obtain ⟨q1, q2⟩ := cells_at hx0.1
           obtain ⟨q3, q4⟩ := spot_none (q2 0 (by omega))
           obtain ⟨b, o, sp⟩ := x
           have hsp : sp = none /\ b < w.heap.size := by
             rw [Nat.zero_mul] at q3 q4
             unfold Addr.add at q3 q4
             simp at q3 q4
             exact ⟨q3, q4⟩
           obtain ⟨rfl, hb2⟩ := hsp
           have := RepI.sl (w := w) (U := U) b o cap (P.cellsOf e) (vals.map (·.2)) (fun i j => ((vals[i]?).bind fun p => p.1[j]?).getD undef) (hU b hb2)
           rw [List.length_map, hvl] at this
           refine this ?_ hlc ?_ ?_
           . intro r hr'
             obtain ⟨p, hp, rfl⟩ := List.mem_map.1 hr'
             obtain ⟨i, hi, rfl⟩ := List.getElem_of_mem hp
             rw [<- (hv i hi).2.1.length, (cells_at (hv i hi).1).1]
           . intro i j r d h1 h2
             rw [List.getElem?_map, Option.map_eq_some_iff] at h1
             obtain ⟨p, hp, rfl⟩ := h1
             obtain ⟨hi, rfl⟩ := List.getElem?_eq_some_iff.1 hp
             obtain ⟨k1, k2, k3⟩ := hv i hi
             obtain ⟨m1, m2⟩ := cells_at k1
             obtain ⟨hj, -⟩ := List.getElem?_eq_some_iff.1 h2
             have hj' : j < (vals[i]).1.length := by rw [k2.length]; exact hj
             have := m2 j hj'
             rw [add_none, add_none] at this
             rw [hp]
             simp only [Option.bind_some]
             rw [List.getElem?_eq_getElem hj', Option.getD_some]
             exact this
           . intro i j r d h1 h2
             rw [List.getElem?_map, Option.map_eq_some_iff] at h1
             obtain ⟨p, hp, rfl⟩ := h1
             obtain ⟨hi, rfl⟩ := List.getElem?_eq_some_iff.1 hp
             obtain ⟨k1, k2, k3⟩ := hv i hi
             obtain ⟨hj, -⟩ := List.getElem?_eq_some_iff.1 h2
             have hj' : j < (vals[i]).1.length := by rw [k2.length]; exact hj
             rw [hp]
             simp only [Option.bind_some]
             rw [List.getElem?_eq_getElem hj', Option.getD_some]
             exact k2.at j _ d (List.getElem?_eq_getElem hj') h2
       . intro r hr'
         obtain ⟨p, hp, rfl⟩ := List.mem_map.1 hr'
         obtain ⟨i, hi, rfl⟩ := List.getElem_of_mem hp
         exact (hv i hi).2.2
  . cases h

def RepArgs (w : World) (us : List Value) (ys : List V) : Prop := us.length = ys.length /\ ∀ (j : Nat) u y, us[j]? = some u -> ys[j]? = some y -> RepV w (fun _ => none) (fun b => b < w.heap.size) w.heap.size u y
theorem RepArgs.nil {w : World} : RepArgs w [] [] := ⟨rfl, fun j u y h => by simp at h⟩
theorem RepArgs.cons {w : World} {u : Value} {y : V} {us : List Value} {ys : List V} (h : RepV w (fun _ => none) (fun b => b < w.heap.size) w.heap.size u y) (hr : RepArgs w us ys) : RepArgs w (u :: us) (y :: ys) := by
 refine ⟨by simp [hr.1], fun j u' y' h1 h2 => ?_⟩
 cases j with
 | zero => simp at h1 h2; subst h1; subst h2; exact h
 | succ j => exact hr.2 j u' y' (by simpa using h1) (by simpa using h2)

theorem RepArgs.agg {w : World} {cs : Array Value} {ds : List D} {us : List Value} {ys : List V} (h : RepAll w (fun b => b < w.heap.size) cs.toList ds) (hr : RepArgs w us ys) : RepArgs w (.agg cs :: us) (.agg (ds.map C.d) :: ys) := by
 refine hr.cons ?_
 have := RepV.agg (w := w) (β := fun _ => none) (U := fun b => b < w.heap.size) (base := w.heap.size) cs.toList (ds.map C.d) (by rw [h.length, List.length_map]) ?_ ?_
 . exact this
 . intro u hu
   obtain ⟨j, hj, rfl⟩ := List.getElem_of_mem hu
   have hj2 : j < ds.length := by rw [<- h.length]; exact hj
   exact (h.at j _ _ (List.getElem?_eq_getElem hj) (List.getElem?_eq_getElem hj2)).oneCell
 . intro j u c hu hc
   rw [List.getElem?_map, Option.map_eq_some_iff] at hc
   obtain ⟨d, hd, rfl⟩ := hc
   exact h.at j u d hu hd
theorem RepArgs.one {w : World} {v : Value} {d : D} {us : List Value} {ys : List V} (h : RepI w (fun b => b < w.heap.size) v d) (hr : RepArgs w us ys) : RepArgs w (v :: us) (vd d :: ys) := hr.cons (.one _ _ h)
theorem RepArgs.s {w : World} {s : ByteArray} {us : List Value} {ys : List V} (hr : RepArgs w us ys) : RepArgs w (.string s :: us) (Abs.vs s.data.toList :: ys) := hr.one (.s s.data.toList)
theorem RepArgs.i {w : World} {k : IntKind} {n : Int} {us : List Value} {ys : List V} (hr : RepArgs w us ys) : RepArgs w (.int k n :: us) (vi k n :: ys) := hr.one (.i k n)
theorem RepArgs.b {w : World} {x : Bool} {us : List Value} {ys : List V} (hr : RepArgs w us ys) : RepArgs w (.bool x :: us) (vb x :: ys) := hr.one (.b x)

theorem glob_of {w : World} (h : ∀ e ∈ globs, ∃ x y, w.heap[e.1]? = some (.cells e.2 x y)) (h2 : ∀ g ∈ gints, g < w.heap.size /\ ∃ m, w.cell? ⟨g, 0, none⟩ = some (.int .i64 m))
  (h3 : ∀ g ∈ gerrs, g < w.heap.size /\ ∃ v, w.cell? ⟨g, 0, none⟩ = some v /\ (v = .nilIface \/ ∃ te pe, v = .iface te pe)) : Glob (fun b => b < w.heap.size) w := by
 refine ⟨fun e he => ?_, h2, h3⟩
 obtain ⟨x, y, hx⟩ := h e he
 exact ⟨(Array.getElem?_eq_some_iff.1 hx).1, x, y, hx⟩
theorem law_calls {P : Program} {f : FuncId} {ys : List V} {w : World} {us : Array Value} (h : AFn P f ys (vb true)) (hr : RepArgs w us.toList ys) (hn : decide (ys.length <= 900) = true) (hgl : Glob (fun b => b < w.heap.size) w) : Calls P f us w fun e w' => e = .returned (.bool true) /\ Below w.heap.size w w' := by
 have h0 : SimB w (fun b => b < w.heap.size) (fun _ _ => False) (fun _ => none) (fun _ => none) (fun b => b < w.heap.size) ⟨ys.length, argsEnv 0 ys, []⟩ ⟨us, []⟩ w := by
  refine { n := by simpa using hr.1, small := of_decide_eq_true hn, args := fun _ _ => rfl, ver0 := ⟨fun k v ver e => (by cases e), fun k v ver us e => (by cases e)⟩, hist := (fun k p e => by cases e), defers := rfl, env := fun t => ?_, mem := (fun k b e => by cases e), dom := (fun k p e => by cases e), apart := (fun k p b e => by cases e), inj := (fun k k' p p' b b' x j _ e => by cases e), stab := fun b h => h, glob := hgl, old := fun b h => h, new := fun b h _ => h, chg := Chg.refl _ _ _, may := (fun k p b c j e => by cases e) }
  show RepV _ _ _ _ _ ((look t (argsEnv 0 ys)).getD (.one .bad))
  rw [look_argsEnv, if_pos (Nat.zero_le _), Nat.sub_zero]
  cases hy : ys[t]? with
  | none => exact .one _ _ trivial
  | some y =>
   have ht : t < ys.length := (List.getElem?_eq_some_iff.1 hy).1
   have ht2 : t < us.toList.length := by rw [hr.1]; exact ht
   have := hr.2 t _ y (List.getElem?_eq_getElem ht2) hy
   have e : us.getD t undef = us.toList[t] := by simp only [Array.length_toList] at ht2; simp [Array.getD, ht2]
   rw [e]; exact this
 refine (h w _ _ _ us h0).mono ?_
 rintro e w' ⟨v, r, m', rfl, ⟨rfl, rfl⟩, β, U, hs⟩
 have := hs.env 0
 refine ⟨?_, hs.chg.below fun _ _ h => h⟩
 have e : (⟨1, [(0, vb true)], []⟩ : St).get 0 = vb true := rfl
 rw [e] at this
 have hv := this.bool
 simp at hv
 subst hv; rfl
set_option linter.unusedSimpArgs false
def PD.same : PD -> PD -> Bool
 | .i k, .i k' => decide (k = k')
 | .b, .b => true
 | .s, .s => true
 | .st c, .st c' => Nat.beq c c'
 | _, _ => false
def pdsSame : List PD -> List PD -> Bool
 | [], [] => true
 | p :: ps, q :: qs => p.same q && pdsSame ps qs
 | _, _ => false
theorem same_eq {p q : PD} (h : p.same q = true) : p = q := by
 cases p <;> cases q <;> first | rfl | (cases h; done) | (simp only [PD.same, decide_eq_true_eq] at h; rw [h]) | exact congrArg PD.st (Nat.eq_of_beq_eq_true h)
theorem pdsSame_eq : ∀ {l m : List PD}, pdsSame l m = true -> l = m
 | [], [], _ => rfl
 | p :: ps, q :: qs, h => by
  simp only [pdsSame, Bool.and_eq_true] at h
  rw [same_eq h.1, pdsSame_eq h.2]
 | [], _ :: _, h => by cases h
 | _ :: _, [], h => by cases h
def pdsE : Nat -> List PD
 | 0 => [.i .i64]
 | 1 => [.b]
 | 2 => [.i .u8]
 | 3 => [.s]
 | 4 => [.i .i64, .s]
 | 5 => [.i .i64, .s, .b]
 | 6 => [.i .u32, .i .u32, .i .i64, .i .i64, .i .i64, .i .i64, .s, .st 5]
 | 7 => [.b, .i .u64, .i .i64]
 | 8 => [.i .i64, .i .i64]
 | 9 => [.i .i64, .i .i64, .b, .i .i64]
 | 10 => [.i .u32, .i .i64, .i .u32, .i .i64, .i .i64, .i .i64, .i .i64, .i .i64, .i .i64, .b]
 | 11 => [.i .i64, .i .i64]
 | 12 => [.i .i64, .i .i64, .st 0]
 | 13 => [.i .i64, .i .i64]
 | 14 => [.i .i64, .i .i64]
 | 15 => [.i .u8, .i .u8, .i .u8, .i .u8, .i .u8, .i .u8, .i .i64, .i .i64]
 | 16 => [.i .u32, .i .u32, .i .i64, .i .i64, .i .i64, .i .i64, .i .i64]
 | 17 => [.i .i64, .i .u32, .i .i64, .i .i64, .i .i64]
 | 18 => [.i .u32, .i .u32, .i .i64, .i .i64, .i .u32, .i .u32, .i .u32, .b, .i .i64]
 | 19 => [.i .u32, .i .i64, .i .i64, .i .i64, .i .i64]
 | 20 => [.i .i64, .i .i64, .b, .b, .i .i64, .i .i64, .i .i64, .i .u32, .i .u32, .s, .s]
 | 21 => [.i .u32, .i .i64]
 | 22 => [.st 0]
 | 23 => [.i .i64, .i .i64, .i .u32, .i .u32, .i .i64, .i .i64, .i .i64, .st 4, .s]
 | 24 => [.b, .s, .i .i64]
 | 25 => [.s, .i .i64, .i .i64]
 | 26 => [.i .u32, .i .u32, .i .i64, .i .i64]
 | 27 => [.i .u64]
 | 28 => [.i .u32]
 | _ => []
def bsz : Nat -> Nat
 | 0 => 8
 | 1 => 1
 | 2 => 1
 | 3 => 16
 | 4 => 24
 | 5 => 32
 | 6 => 80
 | 7 => 24
 | 8 => 16
 | 9 => 32
 | 10 => 80
 | 11 => 16
 | 12 => 40
 | 13 => 16
 | 14 => 16
 | 15 => 24
 | 16 => 48
 | 17 => 40
 | 18 => 48
 | 19 => 40
 | 20 => 88
 | 21 => 16
 | 22 => 24
 | 23 => 88
 | 24 => 32
 | 25 => 32
 | 26 => 24
 | 27 => 8
 | 28 => 4
 | _ => 0
theorem enc_of : ∀ (c : Nat) (x : PdsT (pdsE c) Unit), c < 29 -> (∀ d ∈ (putDs (pdsE c) x).1, c = 2 -> ∃ n : Int, d = .i .u8 n /\ 0 <= n /\ n <= 255) -> ∃ t : τ c, enc c t = (putDs (pdsE c) x).1 := by
 intro c x hc hb
 match c, x, hc, hb with
 | 0, (x0, ()), _, _ => exact ⟨x0, rfl⟩
 | 1, (x0, ()), _, _ => exact ⟨x0, rfl⟩
 | 2, (n, ()), _, hb =>
  obtain ⟨m, h1, h2, h3⟩ := hb (.i .u8 n) (show D.i .u8 n ∈ [D.i .u8 n] from List.mem_singleton.2 rfl) rfl
  cases h1
  refine ⟨UInt8.ofNat n.toNat, ?_⟩
  have e : (UInt8.ofNat n.toNat).toNat = n.toNat := by rw [UInt8.toNat_ofNat']; omega
  show [D.i .u8 ((UInt8.ofNat n.toNat).toNat : Int)] = [D.i .u8 n]
  rw [e]; congr 2; omega
 | 3, (x0, ()), _, _ => exact ⟨x0, rfl⟩
 | 4, (x0, x1, ()), _, _ => exact ⟨TOption.mk x0 x1, rfl⟩
 | 5, (x0, x1, x2, ()), _, _ => exact ⟨TPart.mk x0 x1 x2, rfl⟩
 | 6, (x0, x1, x2, x3, x4, x5, x6, x7, ()), _, _ => exact ⟨THeap.mk x0 x1 x2 x3 x4 x5 x6 x7, rfl⟩
 | 7, (x0, x1, x2, ()), _, _ => exact ⟨TSlot.mk x0 x1 x2, rfl⟩
 | 8, (x0, x1, ()), _, _ => exact ⟨TStay.mk x0 x1, rfl⟩
 | 9, (x0, x1, x2, x3, ()), _, _ => exact ⟨TNode.mk x0 x1 x2 x3, rfl⟩
 | 10, (x0, x1, x2, x3, x4, x5, x6, x7, x8, x9, ()), _, _ => exact ⟨TRule.mk x0 x1 x2 x3 x4 x5 x6 x7 x8 x9, rfl⟩
 | 11, (x0, x1, ()), _, _ => exact ⟨TDrop.mk x0 x1, rfl⟩
 | 12, (x0, x1, x2, ()), _, _ => exact ⟨TQueue.mk x0 x1 x2, rfl⟩
 | 13, (x0, x1, ()), _, _ => exact ⟨TSent.mk x0 x1, rfl⟩
 | 14, (x0, x1, ()), _, _ => exact ⟨TDue.mk x0 x1, rfl⟩
 | 15, (x0, x1, x2, x3, x4, x5, x6, x7, ()), _, _ => exact ⟨TStation.mk x0 x1 x2 x3 x4 x5 x6 x7, rfl⟩
 | 16, (x0, x1, x2, x3, x4, x5, x6, ()), _, _ => exact ⟨TTalk.mk x0 x1 x2 x3 x4 x5 x6, rfl⟩
 | 17, (x0, x1, x2, x3, x4, ()), _, _ => exact ⟨TMap.mk x0 x1 x2 x3 x4, rfl⟩
 | 18, (x0, x1, x2, x3, x4, x5, x6, x7, x8, ()), _, _ => exact ⟨TGuarded.mk x0 x1 x2 x3 x4 x5 x6 x7 x8, rfl⟩
 | 19, (x0, x1, x2, x3, x4, ()), _, _ => exact ⟨TMeter.mk x0 x1 x2 x3 x4, rfl⟩
 | 20, (x0, x1, x2, x3, x4, x5, x6, x7, x8, x9, x10, ()), _, _ => exact ⟨TPacket.mk x0 x1 x2 x3 x4 x5 x6 x7 x8 x9 x10, rfl⟩
 | 21, (x0, x1, ()), _, _ => exact ⟨TNet.mk x0 x1, rfl⟩
 | 22, (x0, ()), _, _ => exact ⟨x0, rfl⟩
 | 23, (x0, x1, x2, x3, x4, x5, x6, x7, x8, ()), _, _ => exact ⟨TSegment.mk x0 x1 x2 x3 x4 x5 x6 x7 x8, rfl⟩
 | 24, (x0, x1, x2, ()), _, _ => exact ⟨TCame.mk x0 x1 x2, rfl⟩
 | 25, (x0, x1, x2, ()), _, _ => exact ⟨TWent.mk x0 x1 x2, rfl⟩
 | 26, (x0, x1, x2, x3, ()), _, _ => exact ⟨TRoad.mk x0 x1 x2 x3, rfl⟩
 | 27, (x0, ()), _, _ => exact ⟨x0, rfl⟩
 | 28, (x0, ()), _, _ => exact ⟨x0, rfl⟩
 | n + 29, _, h, _ => omega

def BndD : Nat -> D -> Prop
 | _, .i k x => k.min <= x /\ x <= k.max
 | _, .b _ => True
 | _, .s l => l.length <= 140737488351232
 | n + 1, .st c xs => xs.length * bsz c <= 140737488351232 /\ ∀ x ∈ xs, ∀ d ∈ enc c x, BndD n d
 | _, _ => False
theorem BndD.up : ∀ (n : Nat) (d : D), BndD n d -> BndD (n + 1) d := by
 intro n
 induction n with
 | zero => intro d h; cases d <;> first | exact h | exact h.elim
 | succ n ih =>
  intro d h
  cases d with
  | st c xs => exact ⟨h.1, fun x hx d hd => ih d (h.2 x hx d hd)⟩
  | _ => first | exact h | exact h.elim

def WkS (d d' : D) : Prop := ∀ (w : World) (U : Nat -> Prop) (v : Value), RepI w U v d -> RepI w U v d'
def WkSs (l l' : List D) : Prop := l.length = l'.length /\ ∀ (j : Nat) d d', l[j]? = some d -> l'[j]? = some d' -> WkS d d'
theorem WkSs.app {a b a' b' : List D} (h : WkSs a a') (k : WkSs b b') : WkSs (a ++ b) (a' ++ b') := by
 refine ⟨by simp [h.1, k.1], fun j d d' h1 h2 => ?_⟩
 by_cases hj : j < a.length
 . rw [List.getElem?_append_left hj] at h1
   rw [List.getElem?_append_left (by rw [<- h.1]; exact hj)] at h2
   exact h.2 j d d' h1 h2
 . rw [List.getElem?_append_right (by omega)] at h1
   rw [List.getElem?_append_right (by rw [<- h.1]; omega), <- h.1] at h2
   exact k.2 _ d d' h1 h2
theorem WkSs.rfl (l : List D) : WkSs l l := ⟨Eq.refl _, fun j d d' h1 h2 => by rw [h1] at h2; cases h2; exact fun _ _ _ h => h⟩
theorem RepAll.wkS {w : World} {U : Nat -> Prop} {cs : List Value} {ds ds' : List D} (h : RepAll w U cs ds) (k : WkSs ds ds') : RepAll w U cs ds' := by
 have key : ∀ (cs : List Value) (ds ds' : List D), RepAll w U cs ds -> WkSs ds ds' -> RepAll w U cs ds' := by
  intro cs
  induction cs with
  | nil =>
   intro ds ds' h k
   cases ds with
   | nil => cases ds' with | nil => trivial | cons => have := k.1; simp at this
   | cons => exact h.elim
  | cons v cs ih =>
   intro ds ds' h k
   cases ds with
   | nil => exact h.elim
   | cons d ds =>
    cases ds' with
    | nil => have := k.1; simp at this
    | cons d' ds' =>
     refine ⟨k.2 0 d d' (by simp) (by simp) _ _ _ h.1, ih ds ds' h.2 ⟨by have := k.1; simpa using this, fun j d d' h1 h2 => k.2 (j + 1) d d' (by simpa using h1) (by simpa using h2)⟩⟩
 exact key cs ds ds' h k

theorem wkS_rows {sz c : Nat} {rows : List (List D)} {xs : List (τ c)} (hsz : sz = esz c) (hl : rows.length = xs.length) (h : ∀ (i : Nat) r x, rows[i]? = some r -> xs[i]? = some x -> WkSs r (enc c x)) : WkS (.sl sz rows) (.st c xs) := by
 subst hsz
 intro w U v hr
 refine RepI.toSt ?_
 have hl' : rows.length = (xs.map (enc c)).length := by simpa using hl
 cases hr with
 | nil a cap _ hn =>
  have : xs = [] := List.length_eq_zero_iff.1 (by simpa using hl.symm)
  subst this
  exact .nil a cap _ hn
 | sl b o cap _ _ vals hU hlen hcap hc hrr =>
  have main := RepI.sl (w := w) (U := U) b o cap (esz c) (xs.map (enc c)) vals hU (fun r hr => by obtain ⟨t, _, rfl⟩ := List.mem_map.1 hr; exact enc_len c t) (by rw [<- hl']; exact hcap)
   (fun i j r d hi hj => by
    rw [List.getElem?_map, Option.map_eq_some_iff] at hi
    obtain ⟨x, hx, rfl⟩ := hi
    have hlt : i < rows.length := by rw [hl]; exact (List.getElem?_eq_some_iff.1 hx).1
    have hw := h i _ x (List.getElem?_eq_getElem hlt) hx
    have hjlt : j < (rows[i]).length := by rw [hw.1]; exact (List.getElem?_eq_some_iff.1 hj).1
    exact hc i j _ _ (List.getElem?_eq_getElem hlt) (List.getElem?_eq_getElem hjlt))
   (fun i j r d hi hj => by
    rw [List.getElem?_map, Option.map_eq_some_iff] at hi
    obtain ⟨x, hx, rfl⟩ := hi
    have hlt : i < rows.length := by rw [hl]; exact (List.getElem?_eq_some_iff.1 hx).1
    have hw := h i _ x (List.getElem?_eq_getElem hlt) hx
    have hjlt : j < (rows[i]).length := by rw [hw.1]; exact (List.getElem?_eq_some_iff.1 hj).1
    exact hw.2 j _ d (List.getElem?_eq_getElem hjlt) hj _ _ _ (hrr i j _ _ (List.getElem?_eq_getElem hlt) (List.getElem?_eq_getElem hjlt)))
  rw [<- hl'] at main
  exact main

def tyDs (P : Program) (cod : TypeId -> Nat) : Nat -> TypeId -> Option (List PD)
 | 0, _ => none
 | n + 1, t => match P.underlying t with
  | some .bool => some [.b]
  | some (.int k) => some [.i k]
  | some .string => some [.s]
  | some (.struct fs) => (fs.toList.map (·.type)).foldr (fun t r => match tyDs P cod n t, r with | some a, some b => some (a ++ b) | _, _ => none) (some [])
  | some (.array m e) => (List.replicate m e).foldr (fun t r => match tyDs P cod n t, r with | some a, some b => some (a ++ b) | _, _ => none) (some [])
  | some (.slice e) => if cod t < 29 /\ esz (cod t) = P.cellsOf e /\ bsz (cod t) = P.bytesOf e then match tyDs P cod n e with
   | some ps => match pdsSame ps (pdsE (cod t)) with | true => some [.st (cod t)] | false => none
   | none => none
   else none
  | _ => none

theorem putDs_app : ∀ (a b : List PD) (x : PdsT a Unit) (y : PdsT b Unit), ∃ z : PdsT (a ++ b) Unit, (putDs (a ++ b) z).1 = (putDs a x).1 ++ (putDs b y).1
 | [], b, x, y => ⟨y, rfl⟩
 | .i k :: a, b, (n, x), y => by obtain ⟨z, hz⟩ := putDs_app a b x y; exact ⟨(n, z), by simp [putDs, hz]⟩
 | .b :: a, b, (n, x), y => by obtain ⟨z, hz⟩ := putDs_app a b x y; exact ⟨(n, z), by simp [putDs, hz]⟩
 | .s :: a, b, (n, x), y => by obtain ⟨z, hz⟩ := putDs_app a b x y; exact ⟨(n, z), by simp [putDs, hz]⟩
 | .st c :: a, b, (n, x), y => by obtain ⟨z, hz⟩ := putDs_app a b x y; exact ⟨(n, z), by simp [putDs, hz]⟩

theorem list_choose {α β : Type} {Q : α -> β -> Prop} : ∀ (l : List α), (∀ a ∈ l, ∃ b, Q a b) -> ∃ m : List β, l.length = m.length /\ ∀ (i : Nat) a b, l[i]? = some a -> m[i]? = some b -> Q a b
 | [], _ => ⟨[], rfl, fun i a b h => by simp at h⟩
 | a :: l, h => by
  obtain ⟨b, hb⟩ := h a (by simp)
  obtain ⟨m, h1, h2⟩ := list_choose l (fun a ha => h a (by simp [ha]))
  refine ⟨b :: m, by simp [h1], fun i a' b' e1 e2 => ?_⟩
  cases i with
  | zero => simp at e1 e2; subst e1; subst e2; exact hb
  | succ i => exact h2 i a' b' (by simpa using e1) (by simpa using e2)

theorem u8_of {ps : List PD} (h : ps = [.i .u8]) {x : PdsT ps Unit} {d : D} (hd : d ∈ (putDs ps x).1) : ∃ n : Int, d = .i .u8 n := by
 subst h
 obtain ⟨n, u⟩ := x
 have hd' : d ∈ [D.i .u8 n] := hd
 exact ⟨n, List.mem_singleton.1 hd'⟩

theorem sh_typed {P : Program} {cod : TypeId -> Nat} : ∀ (n : Nat) (t : TypeId) (ds : List D) (ps : List PD), tyDs P cod n t = some ps -> Sh P n t ds -> ∃ x : PdsT ps Unit, WkSs ds (putDs ps x).1 /\ ∀ d ∈ (putDs ps x).1, BndD n d
 | 0, t, ds, ps, h, _ => by cases h
 | n + 1, t, ds, ps, h, hs => by
  have parts : ∀ (ts : List TypeId) (ds : List D) (ps : List PD), ts.foldr (fun t r => match tyDs P cod n t, r with | some a, some b => some (a ++ b) | _, _ => none) (some []) = some ps -> ShAll (Sh P n) ts ds ->
      ∃ x : PdsT ps Unit, WkSs ds (putDs ps x).1 /\ ∀ d ∈ (putDs ps x).1, BndD (n + 1) d := by
    intro ts
    induction ts with
    | nil =>
      intro ds ps h hs
      cases h
      have : ds = [] := hs
      subst this
      exact ⟨(), WkSs.rfl _, fun d hd => by cases hd⟩
    | cons t ts ih =>
      intro ds ps h hs
      rw [List.foldr_cons] at h
      split at h
      . rename_i a b h1 h2
        cases h
        obtain ⟨d1, d2, rfl, s1, s2⟩ := hs
        obtain ⟨x, hx, bx⟩ := sh_typed n t d1 a h1 s1
        obtain ⟨y, hy, byy⟩ := ih d2 b h2 s2
        obtain ⟨z, hz⟩ := putDs_app a b x y
        refine ⟨z, by rw [hz]; exact hx.app hy, fun d hd => ?_⟩
        rw [hz] at hd
        rcases List.mem_append.1 hd with hd | hd
        . exact BndD.up n d (bx d hd)
        . exact byy d hd
      . cases h
  unfold tyDs at h
  unfold Sh at hs
  split at h
  . rename_i hu
    cases h
    rw [hu] at hs
    obtain ⟨b, rfl⟩ := hs
    exact ⟨(b, ()), WkSs.rfl _, fun d hd => by simp [putDs] at hd; subst hd; trivial⟩
  . rename_i k hu
    cases h
    rw [hu] at hs
    obtain ⟨x, rfl, h1, h2⟩ := hs
    exact ⟨(x, ()), WkSs.rfl _, fun d hd => by simp [putDs] at hd; subst hd; exact ⟨h1, h2⟩⟩
  . rename_i hu
    cases h
    rw [hu] at hs
    obtain ⟨l, rfl, h1⟩ := hs
    exact ⟨(l, ()), WkSs.rfl _, fun d hd => by simp [putDs] at hd; subst hd; exact h1⟩
  . rename_i fs hu
    rw [hu] at hs
    exact parts _ ds ps h hs
  . rename_i m e hu
    rw [hu] at hs
    exact parts _ ds ps h hs
  . rename_i e hu
    rw [hu] at hs
    obtain ⟨rows, rfl, h1, h2, h3⟩ := hs
    split at h
    case isFalse => cases h
    rename_i hc
    obtain ⟨c1, c2, c3⟩ := hc
    split at h
    case h_2 => cases h
    rename_i ps' hps
    split at h
    case h_2 => cases h
    rename_i heq
    have heq := pdsSame_eq heq
    subst heq
    cases h
    obtain ⟨xs, hl, hx⟩ := list_choose (Q := fun (r : List D) (x : τ (cod t)) => WkSs r (enc (cod t) x) /\ ∀ d ∈ enc (cod t) x, BndD n d) rows (fun r hr => by
      obtain ⟨x, hx, bx⟩ := sh_typed n e r _ hps (h3 r hr)
      obtain ⟨y, hy⟩ := enc_of (cod t) x c1 (fun d hd he => by
        have hb := bx d hd
        obtain ⟨n', rfl⟩ := u8_of (by rw [he]; rfl) hd
        have hb' : IntKind.u8.min <= n' /\ n' <= IntKind.u8.max := by cases n <;> exact hb
        exact ⟨n', rfl, hb'.1, hb'.2⟩)
      exact ⟨y, by rw [hy]; exact hx, by rw [hy]; exact bx⟩)
    refine ⟨(xs, ()), ?_, fun d hd => ?_⟩
    . refine ⟨rfl, fun j d d' e1 e2 => ?_⟩
      cases j with
      | zero =>
        simp [putDs] at e1 e2
        subst e1; subst e2
        exact wkS_rows c2.symm hl (fun i r x a1 a2 => (hx i r x a1 a2).1)
      | succ j => simp at e1
    . simp [putDs] at hd
      subst hd
      refine ⟨by rw [<- hl, c3]; exact h2, fun x hxm d hd => ?_⟩
      obtain ⟨i, hi⟩ := List.mem_iff_getElem?.1 hxm
      have hlt : i < rows.length := by rw [hl]; exact (List.getElem?_eq_some_iff.1 hi).1
      exact (hx i _ x (List.getElem?_eq_getElem hlt) hi).2 d hd
  . cases h

theorem rd_typed {P : Program} {cod : TypeId -> Nat} {w : World} {t : TypeId} {cs : List Value} {ps : List PD} (hok : okT P 6 t = true) (hps : tyDs P cod 6 t = some ps) (hr : Rd P w t cs) :
  ∃ x : PdsT ps Unit, RepAll w (fun b => b < w.heap.size) cs (putDs ps x).1 /\ ∀ d ∈ (putDs ps x).1, BndD 6 d := by
 obtain ⟨ds, h1, h2⟩ := rd_rep (U := fun b => b < w.heap.size) (fun _ h => h) 6 t cs hok hr
 obtain ⟨x, h3, h4⟩ := sh_typed 6 t ds ps hps h2
 exact ⟨x, h1.wkS h3, h4⟩
theorem RepArgs.d1 {w : World} {v : Value} {d : D} {us : List Value} {ys : List V} (h : RepAll w (fun b => b < w.heap.size) [v] [d]) (hr : RepArgs w us ys) : RepArgs w (v :: us) (vd d :: ys) := hr.one h.1
theorem putDs_rep {c : Nat} : ∀ (n : Nat) (x : PdsT (List.replicate n (.st c)) Unit), ∃ L : List (List (τ c)), L.length = n /\ (putDs (List.replicate n (.st c)) x).1 = L.map (D.st c)
 | 0, x => ⟨[], rfl, rfl⟩
 | n + 1, (l, x) => by
  obtain ⟨L, h1, h2⟩ := putDs_rep n x
  exact ⟨l :: L, by simp [h1], congrArg (D.st c l :: ·) h2⟩
theorem rd_typedG {P : Program} {cod : TypeId -> Nat} {w : World} {t : TypeId} {cs : List Value} {k : IntKind} {n c : Nat} (hok : okT P 6 t = true) (hps : tyDs P cod 6 t = some (.i k :: List.replicate n (.st c))) (hr : Rd P w t cs) :
  ∃ (i : Int) (L : List (List (τ c))), L.length = n /\ RepAll w (fun b => b < w.heap.size) cs (.i k i :: L.map (D.st c)) /\ (k.min <= i /\ i <= k.max) /\ ∀ l ∈ L, BndD 6 (.st c l) := by
 obtain ⟨x, h1, h2⟩ := rd_typed hok hps hr
 obtain ⟨i, y⟩ := x
 obtain ⟨L, h3, h4⟩ := putDs_rep n y
 have e : (putDs (.i k :: List.replicate n (.st c)) (i, y)).1 = .i k i :: L.map (D.st c) := congrArg (D.i k i :: ·) h4
 rw [e] at h1 h2
 exact ⟨i, L, h3, h1, h2 _ List.mem_cons_self, fun l hl => h2 _ (List.mem_cons_of_mem _ (List.mem_map.2 ⟨l, hl, rfl⟩))⟩
theorem RepArgs.aggG {w : World} {cs : Array Value} {k : IntKind} {i : Int} {n c : Nat} {L : List (List (τ c))} {us : List Value} {ys : List V} (h : RepAll w (fun b => b < w.heap.size) cs.toList (.i k i :: L.map (D.st c))) (hL : L.length = n) (hr : RepArgs w us ys) :
   RepArgs w (.agg cs :: us) (.agg ([C.d (.i k i)] ++ gcs c n L) :: ys) := by
 refine hr.cons ?_
 have hl : cs.toList.length = ([C.d (.i k i)] ++ gcs c n L).length := by rw [h.length]; simp [gcs, hL]
 have := RepV.agg (w := w) (β := fun _ => none) (U := fun b => b < w.heap.size) (base := w.heap.size) cs.toList ([C.d (.i k i)] ++ gcs c n L) hl ?_ ?_
 . exact this
 . intro u hu
   obtain ⟨j, hj, rfl⟩ := List.getElem_of_mem hu
   have hj2 : j < (D.i k i :: L.map (D.st c)).length := by rw [<- h.length]; exact hj
   exact (h.at j _ _ (List.getElem?_eq_getElem hj) (List.getElem?_eq_getElem hj2)).oneCell
 . intro j u x hu hx
   cases j with
   | zero => cases hx; exact h.at 0 u (.i k i) hu rfl
   | succ j =>
    have hx' : (gcs c n L)[j]? = some x := by simpa using hx
    have hj : j < n := by have := (List.getElem?_eq_some_iff.1 hx').1; simpa [gcs] using this
    unfold gcs at hx'
    rw [List.getElem?_map, List.getElem?_range hj] at hx'
    cases hx'
    have hd : (D.i k i :: L.map (D.st c))[j + 1]? = some (D.st c (L.getD j [])) := by
     rw [List.getElem?_cons_succ, List.getElem?_map, List.getD_eq_getElem?_getD, List.getElem?_eq_getElem (by omega)]; rfl
    exact h.at (j + 1) u _ hu hd
theorem law_told {P : Program} (F : FS P) (hrp : F.rp = ⟨1, [(0, .v (.one .b))], []⟩) {x : VPsT F.ap Unit} (h : ∃ r, F.fn x = some r /\ (F.rp.put r).get 0 = vb true /\ (F.rp.put r).mem = []) {w : World} {us : Array Value} (hr : RepArgs w us.toList (putVs (fun _ => 0) F.ap x).1)
  (hn : decide ((putVs (fun _ => 0) F.ap x).1.length <= 900) = true) (hgl : ∀ e ∈ globs, ∃ x y, w.heap[e.1]? = some (.cells e.2 x y) := by intro e he; exact absurd he (by simp [Go.Proofs.Ytnhiilbmgkbbaaa.Abs.globs])) (hgi : ∀ g ∈ gints, g < w.heap.size /\ ∃ m, w.cell? ⟨g, 0, none⟩ = some (.int .i64 m) := by intro e he; exact absurd he (by simp [Go.Proofs.Ytnhiilbmgkbbaaa.Abs.gints]))
  (hge : ∀ g ∈ gerrs, g < w.heap.size /\ ∃ v, w.cell? ⟨g, 0, none⟩ = some v /\ (v = .nilIface \/ ∃ te pe, v = .iface te pe) := by intro e he; exact absurd he (by simp [Go.Proofs.Ytnhiilbmgkbbaaa.Abs.gerrs])) : Calls P F.f us w fun e w' => e = .returned (.bool true) /\ Below w.heap.size w w' := by
 obtain ⟨r, h1, h2, h3⟩ := h
 have := F.ok x r h1
 rw [h2, h3] at this
 exact law_calls this hr hn (glob_of hgl hgi hge)
end Go.Proofs.Ytnhiilbmgkbbaaa.Abs
namespace Go.Proofs.Ytnhiilbmgkbbaaa.X
open Go Go.RowKit Go.Proofs.Ytnhiilbmgkbbaaa.Abs Go.Proofs.Ytnhiilbmgkbbaaa.Bits
set_option linter.unusedVariables false
set_option linter.unnecessarySimpa false
set_option linter.unusedSimpArgs false
set_option maxRecDepth 100000
theorem small_of {L : List (List TDue)} (h : ∀ l ∈ L, BndD 6 (D.st 14 l)) : Small L := fun i l hl => (h l (List.mem_of_getElem? hl)).1
theorem wlives : wLives_fn () = some (true, ()) := by kernel_rfl
theorem loop_idxF {A B : Type} {tag : Nat} {f : A -> Option (A ⊕ B)} (n : Nat) (st : Nat -> A) (out : B) (h1 : ∀ i, i < n -> f (st i) = some (.inl (st (i + 1)))) (h2 : f (st n) = some (.inr out)) (N : Nat) (hN : n < N) : loopO tag f N (st 0) = some out := by
 have key : ∀ (c k N : Nat), k + c = n -> c < N -> loopO tag f N (st k) = some out := by
  intro c
  induction c with
  | zero =>
   intro k N hk hN
   obtain ⟨N, rfl⟩ : ∃ m, N = m + 1 := ⟨N - 1, by omega⟩
   obtain rfl : k = n := by omega
   exact loopO_out h2
  | succ c ih =>
   intro k N hk hN
   obtain ⟨N, rfl⟩ : ∃ m, N = m + 1 := ⟨N - 1, by omega⟩
   exact (loopO_in (h1 k (by omega))).trans (ih (k + 1) N (by omega) (by omega))
 exact key n 0 N (by omega) hN
theorem wsame_in (l : List TDue) (hl : l.length <= 9000000000000) : rSame_loop10_4 (0, (l, (l, ((l.length : Int), ())))) = some (.inr ()) := by
 unfold rSame_loop10_4
 refine (loop_hit (tag := 100004) (f := fun x => (rSame_step10_4 x).eval) (l := l) (fun i => ((i : Int), (l, (l, ((l.length : Int), ()))))) (fun _ => false) (fun _ => .inr ()) (fun i x hx => ?_) ?_ 18446744073709551616 (by omega)).trans rfl
 . have hi := (List.getElem?_eq_some_iff.1 hx).1
   have hx' : l[Int.toNat (i : Int)]? = some x := by rw [Int.toNat_natCast]; exact hx
   unfold rSame_step10_4
   exact ev_t (decide_eq_true (by omega)) (ev_g (decide_eq_true (by omega)) (ev_opt hx' (ev_g (decide_eq_true (by omega)) (ev_opt hx' (ev_f (by simp) (ev_r (by rw [next_i64 i (by omega)])))))))
 . unfold rSame_step10_4
   exact ev_f (decide_eq_false (by omega)) (ev_r rfl)
theorem wsame_refl {n : Int} {L : List (List TDue)} (hL : L.length = 96) (hs : Small L) : rSame_fn (n, (L, (n, (L, ())))) = some (true, ()) := by
 have hloop : rSame_loop9_2 (0, (n, (L, (n, (L, ()))))) = some (.inr (n, (L, (n, (L, ()))))) := by
  unfold rSame_loop9_2
  refine (loop_hit (tag := 90002) (f := fun x => (rSame_step9_2 x).eval) (l := L) (fun i => ((i : Int), (n, (L, (n, (L, ())))))) (fun _ => false) (fun _ => .inr (n, (L, (n, (L, ()))))) (fun i x hx => ?_) ?_ 18446744073709551616 (by omega)).trans rfl
  . have hi := (List.getElem?_eq_some_iff.1 hx).1
    have hx' := get_int hL (by omega) hx
    have hsx := hs i x hx
    unfold rSame_step9_2
    refine ev_t (decide_eq_true (by omega)) (ev_g (decide_eq_true (by omega)) (ev_g (sameN_true 14 95 L) (ev_opt hx' (ev_g (decide_eq_true (by omega)) (ev_g (sameN_true 14 95 L) (ev_opt hx' (ev_f (by simp) (ev_opt (wsame_in x (by omega)) ?_))))))))
    exact ev_f rfl (ev_g sameN_t (ev_g sameN_t (ev_r (by rw [next_i64 i (by omega)]))))
  . unfold rSame_step9_2
    exact ev_f (decide_eq_false (by rw [hL]; decide)) (ev_g sameN_t (ev_g sameN_t (ev_r rfl)))
 unfold rSame_fn rSame_tree
 refine ev_g sameN_t (ev_g sameN_t (ev_opt hloop ?_))
 exact ev_r (by simp)
theorem setO_fn {now id a : Int} {L : List (List TDue)} (hL : L.length = 96) (hs : Small L) : ∃ (x e : Int) (K : List (List TDue)), wSetO_fn (now, (L, (id, (a, ())))) = some (x, (e, (96, (K, ())))) /\ K.length = 96 := by
 have h96 : (List.replicate 96 ([] : List TDue)).length = 96 := List.length_replicate
 unfold wSetO_fn wSetO_tree
 simp only
 rcases check_cases (now := now) hL hs with ⟨b, h, rfl⟩ | ⟨e, he, hc⟩
 case inr => exact ⟨_, _, _, ev_g sameN_t (ev_opt hc (ev_t (by simp [he]) (ev_r rfl))), h96⟩
 have hn0 := h.n0
 by_cases c1 : a <= now
 . exact ⟨_, _, _, ev_g sameN_t (ev_opt (check_ok h) (ev_f rfl (ev_t (decide_eq_true c1) (ev_r rfl)))), h96⟩
 by_cases c2 : 16777216 <= a
 . exact ⟨_, _, _, ev_g sameN_t (ev_opt (check_ok h) (ev_f rfl (ev_f (decide_eq_false c1) (ev_t (decide_eq_true c2) (ev_r rfl))))), h96⟩
 by_cases c3 : id ∈ b.map (·.id)
 . obtain ⟨i, k, d, _, _, _, hf⟩ := find_yes h c3
   exact ⟨_, _, _, ev_g sameN_t (ev_opt (check_ok h) (ev_f rfl (ev_f (decide_eq_false c1) (ev_f (decide_eq_false c2) (ev_g sameN_t (ev_opt hf (ev_t (decide_eq_true (by omega)) (ev_r rfl)))))))), h96⟩
 by_cases c4 : b.length = 500
 . exact ⟨_, _, _, ev_g sameN_t (ev_opt (check_ok h) (ev_f rfl (ev_f (decide_eq_false c1) (ev_f (decide_eq_false c2) (ev_g sameN_t (ev_opt (find_no h c3) (ev_f rfl (ev_g sameN_t (ev_opt (count_ok h) (ev_t (decide_eq_true (by omega)) (ev_r rfl))))))))))), h96⟩
 . exact ⟨_, _, _, ev_g sameN_t (ev_opt (check_ok h) (ev_f rfl (ev_f (decide_eq_false c1) (ev_f (decide_eq_false c2) (ev_g sameN_t (ev_opt (find_no h c3) (ev_f rfl (ev_g sameN_t (ev_opt (count_ok h) (ev_f (decide_eq_false (by omega)) (ev_g sameN_t (ev_opt (own_fn (Wh_len now b) (wh_small h.len)) (ev_opt (put_fn hn0 h.n1 (by omega) (by omega) (by omega) (Wh_len now b) (fun i xs hx => by have := wh_lens h.len i xs hx; omega)) (ev_r rfl)))))))))))))), (List.length_set ..).trans (Wh_len now b)⟩
theorem stopO_fn {now id : Int} {L : List (List TDue)} (hL : L.length = 96) (hs : Small L) : ∃ (x e : Int) (K : List (List TDue)), wStopO_fn (now, (L, (id, ()))) = some (x, (e, (96, (K, ())))) /\ K.length = 96 := by
 have h96 : (List.replicate 96 ([] : List TDue)).length = 96 := List.length_replicate
 unfold wStopO_fn wStopO_tree
 simp only
 rcases check_cases (now := now) hL hs with ⟨b, h, rfl⟩ | ⟨e, he, hc⟩
 case inr => exact ⟨_, _, _, ev_g sameN_t (ev_opt hc (ev_t (by simp [he]) (ev_r rfl))), h96⟩
 by_cases c : id ∈ b.map (·.id)
 . obtain ⟨i, k, d, hi, hk, hd, hf⟩ := find_yes h c
   have hkl := (List.getElem?_eq_some_iff.1 hk).1
   have hcl := cell_len now b i
   have hbl := h.len
   refine ⟨_, _, _, ev_g sameN_t (ev_opt (check_ok h) (ev_f rfl (ev_g sameN_t (ev_opt hf (ev_f (decide_eq_false (by first | omega | (dsimp only; omega) | (simp; omega))) (ev_g sameN_t (ev_opt (own_fn (Wh_len now b) (wh_small h.len)) (ev_g (decide_eq_true (by first | omega | (dsimp only; omega) | (simp; omega))) (ev_g (decide_eq_true (by first | omega | (dsimp only; omega) | (simp; omega))) (ev_opt (b := cell now b i) (by simp only [Int.toNat_natCast]; exact Wh_get now b hi) (ev_g (by simp) (ev_opt (b := ((cell now b i).take k ++ (cell now b i).drop (k + 1), ())) ?_ (ev_g (decide_eq_true (by first | omega | (dsimp only; omega) | (simp; omega))) (ev_g (by simp) (ev_r rfl))))))))))))))), (List.length_set ..).trans (Wh_len now b)⟩
   simp only [next_i64 k (by omega)]
   exact del_ok _ k hkl
 . exact ⟨_, _, _, ev_g sameN_t (ev_opt (check_ok h) (ev_f rfl (ev_g sameN_t (ev_opt (find_no h c) (ev_t (by decide) (ev_r rfl)))))), h96⟩
theorem tickO_fn {now n : Int} {L : List (List TDue)} (hL : L.length = 96) (hs : Small L) (hn : -9223372036854775808 <= n /\ n <= 9223372036854775807) : ∃ (x e : Int) (K : List (List TDue)) (l : List TDue), wTickO_fn (now, (L, (n, ()))) = some (x, (e, (96, (K, (l, ()))))) /\ K.length = 96 := by
 have h96 : (List.replicate 96 ([] : List TDue)).length = 96 := List.length_replicate
 unfold wTickO_fn wTickO_tree
 simp only
 rcases check_cases (now := now) hL hs with ⟨b, h, rfl⟩ | ⟨e, he, hc⟩
 case inr => exact ⟨_, _, _, _, ev_g sameN_t (ev_opt hc (ev_t (by simp [he]) (ev_g rfl (ev_r rfl)))), h96⟩
 have hn0 := h.n0
 have hn1 := h.n1
 by_cases c1 : n < 0
 . exact ⟨_, _, _, _, ev_g sameN_t (ev_opt (check_ok h) (ev_f rfl (ev_t (decide_eq_true c1) (ev_g rfl (ev_r rfl))))), h96⟩
 by_cases c2 : 10000 < n
 . exact ⟨_, _, _, _, ev_g sameN_t (ev_opt (check_ok h) (ev_f rfl (ev_f (decide_eq_false c1) (ev_t (decide_eq_true c2) (ev_g rfl (ev_r rfl)))))), h96⟩
 have hw : IntKind.wrap IntKind.i64 (now + n) = now + n := wri _ (by omega)
 by_cases c3 : 16777216 <= now + n
 . exact ⟨_, _, _, _, ev_g sameN_t (ev_opt (check_ok h) (ev_f rfl (ev_f (decide_eq_false c1) (ev_f (decide_eq_false c2) (ev_t (decide_eq_true (by rw [hw]; exact c3)) (ev_g rfl (ev_r rfl))))))), h96⟩
 obtain ⟨t, rfl⟩ := Int.eq_ofNat_of_zero_le (show 0 <= n by omega)
 exact ⟨_, _, _, _, ev_g sameN_t (ev_opt (check_ok h) (ev_f rfl (ev_f (decide_eq_false c1) (ev_f (decide_eq_false c2) (ev_f (decide_eq_false (by rw [hw]; exact c3)) (ev_g sameN_t (ev_opt (own_fn (Wh_len now b) (wh_small h.len)) (ev_g rfl (ev_g rfl (ev_opt (tick_loop h t (by omega)) (ev_g (by simp) (ev_r rfl)))))))))))), Wh_len _ _⟩
theorem wo_before {now : Int} {L : List (List TDue)} (n id a : Int) (hL : L.length = 96) (hs : Small L) :
   wheelOwn_loop4_3 (0, (n, (id, (a, (now, (now, (L, (0, (L, ()))))))))) = some (n, (id, (a, (now, (now, (L, (96, (L, ())))))))) := by
 unfold wheelOwn_loop4_3
 refine (loop_hit (tag := 40003) (f := fun x => (wheelOwn_step4_3 x).eval) (l := L) (fun i => ((i : Int), (n, (id, (a, (now, (now, (L, (i, (L, ()))))))))) ) (fun _ => false) (fun _ => (n, (id, (a, (now, (now, (L, (96, (L, ()))))))))) (fun i x hx => ?_) ?_ 18446744073709551616 (by omega)).trans rfl
 . have hi := (List.getElem?_eq_some_iff.1 hx).1
   have hx2 := hs i x hx
   unfold wheelOwn_step4_3
   simp only
   refine ev_t (decide_eq_true (by omega)) (ev_g (decide_eq_true (by omega)) (ev_g (sameN_true 14 95 L) (ev_opt (get_int hL (by omega) hx) (ev_g (decide_eq_true (by omega)) (ev_g (decide_eq_true (by omega)) (ev_g (decide_eq_true (by omega)) (ev_g sameN_t (ev_r ?_))))))))
   rw [next_i64 i (by omega), Int.toNat_natCast, set_id hx]
 . unfold wheelOwn_step4_3
   simp only
   refine ev_f (decide_eq_false (by rw [hL]; decide)) (ev_g sameN_t (ev_r ?_))
   rw [hL]
theorem wo_in1 (A B C : Int) (s : Bool) (i0 : Int) (len N h : Nat) (ls : List (Nat × Nat)) (m2 : Nat) (K2 : List (List TDue)) (m3 : Nat) (K3 : List (List TDue)) (x : Int) (y : Int) (L : List (List TDue)) (m : Nat) (K : List (List TDue)) (hN : N <= 9223372036854775807) :
  wheelOwn_loop1004_19 ((0 : Int), ((0 : Nat), (N, (A, (B, (C, (s, (i0, ((N : Int), (len, (N, (h, (ls, (m2, (K2, (m3, (K3, (x, (y, (L, (m, (K, ())))))))))))))))))))))) = some (A, (B, (C, (s, (i0, (ls.set h (len, N), (m2, (K2, (m3, (K3, (x, (y, (L, (m, (K, ()))))))))))))))) :=
 loop_idxF (tag := 10040019) (f := fun x => (wheelOwn_step1004_19 x).eval) N
  (fun i => ((i : Int), ((0 : Nat), (N, (A, (B, (C, (s, (i0, ((N : Int), (len, (N, (h, (ls, (m2, (K2, (m3, (K3, (x, (y, (L, (m, (K, ()))))))))))))))))))))))) _
  (fun i hi => by
   show (wheelOwn_step1004_19 _).eval = _
   unfold wheelOwn_step1004_19
   exact ev_t (by simp <;> omega) (ev_g (by simp <;> omega) (ev_g (by simp <;> omega) (ev_g (by simp <;> omega) (ev_g (by simp <;> omega) (ev_g sameN_t (ev_r (by rw [next_i64 i (by omega)]))))))))
  (by
   show (wheelOwn_step1004_19 _).eval = _
   unfold wheelOwn_step1004_19
   exact ev_f (by simp) (ev_g sameN_t (ev_r rfl))) 18446744073709551616 (by omega)
theorem wo_out1 (A B C : Int) (s : Bool) (ls : List (Nat × Nat)) (m2 : Nat) (K2 : List (List TDue)) (m3 : Nat) (K3 : List (List TDue)) (x : Int) (y : Int) (L : List (List TDue)) (m : Nat) (K : List (List TDue)) (hls : ls.length = 96) (hb : ∀ x ∈ ls, x.1 <= x.2 /\ x.2 <= 9223372036854775807) :
  wheelOwn_loop1004_15 ((0 : Int), (A, (B, (C, (s, (ls, (m2, (K2, (m3, (K3, (x, (y, (L, (m, (K, ()))))))))))))))) = some (A, (B, (C, (s, (ls, (m2, (K2, (m3, (K3, (x, (y, (L, (m, (K, ())))))))))))))) :=
 loop_idxF (tag := 10040015) (f := fun x => (wheelOwn_step1004_15 x).eval) 96
  (fun i => ((i : Int), (A, (B, (C, (s, (ls, (m2, (K2, (m3, (K3, (x, (y, (L, (m, (K, ())))))))))))))))) _
  (fun i hi => by
   obtain ⟨r, hr⟩ : ∃ r, ls[i]? = some r := ⟨_, List.getElem?_eq_getElem (by omega)⟩
   have hrb := hb r (List.mem_of_getElem? hr)
   have hset : ls.set i (r.1, r.2) = ls := set_id hr
   have hin := wo_in1 A B C s (i : Int) r.1 r.2 i ls m2 K2 m3 K3 x y L m K hrb.2
   rw [hset] at hin
   show (wheelOwn_step1004_15 _).eval = _
   unfold wheelOwn_step1004_15
   refine ev_t (by simp <;> omega) (ev_g (by simp <;> omega) (ev_opt (show ls[Int.toNat (i : Int)]? = some r by rw [Int.toNat_natCast]; exact hr) (ev_g (by simp) (ev_g sameN_t (ev_opt (b := (A, (B, (C, (s, ((i : Int), (ls, (m2, (K2, (m3, (K3, (x, (y, (L, (m, (K, ())))))))))))))))) ?_ ?_)))))
   . simp only [Int.toNat_natCast]
     exact hin
   . exact ev_g sameN_t (ev_r (by rw [next_i64 i (by omega)])))
  (by
   show (wheelOwn_step1004_15 _).eval = _
   unfold wheelOwn_step1004_15
   exact ev_f (by simp) (ev_g sameN_t (ev_r rfl))) 18446744073709551616 (by omega)
theorem wo_in2 (A B C : Int) (s : Bool) (i0 : Int) (len N h : Nat) (ls : List (Nat × Nat)) (l1 : List (Nat × Nat)) (m3 : Nat) (K3 : List (List TDue)) (x : Int) (y : Int) (L : List (List TDue)) (m : Nat) (K : List (List TDue)) (hN : N <= 9223372036854775807) :
  wheelOwn_loop2004_19 ((0 : Int), ((0 : Nat), (N, (A, (B, (C, (s, (i0, ((N : Int), (len, (N, (h, (ls, (l1, (m3, (K3, (x, (y, (L, (m, (K, ()))))))))))))))))))))) = some (A, (B, (C, (s, (i0, (ls.set h (len, N), (l1, (m3, (K3, (x, (y, (L, (m, (K, ())))))))))))))) :=
 loop_idxF (tag := 20040019) (f := fun x => (wheelOwn_step2004_19 x).eval) N
  (fun i => ((i : Int), ((0 : Nat), (N, (A, (B, (C, (s, (i0, ((N : Int), (len, (N, (h, (ls, (l1, (m3, (K3, (x, (y, (L, (m, (K, ())))))))))))))))))))))) _
  (fun i hi => by
   show (wheelOwn_step2004_19 _).eval = _
   unfold wheelOwn_step2004_19
   exact ev_t (by simp <;> omega) (ev_g (by simp <;> omega) (ev_g (by simp <;> omega) (ev_g (by simp <;> omega) (ev_g (by simp <;> omega) (ev_g sameN_t (ev_r (by rw [next_i64 i (by omega)]))))))))
  (by
   show (wheelOwn_step2004_19 _).eval = _
   unfold wheelOwn_step2004_19
   exact ev_f (by simp) (ev_g sameN_t (ev_r rfl))) 18446744073709551616 (by omega)
theorem wo_out2 (A B C : Int) (s : Bool) (ls : List (Nat × Nat)) (l1 : List (Nat × Nat)) (m3 : Nat) (K3 : List (List TDue)) (x : Int) (y : Int) (L : List (List TDue)) (m : Nat) (K : List (List TDue)) (hls : ls.length = 96) (hb : ∀ x ∈ ls, x.1 <= x.2 /\ x.2 <= 9223372036854775807) :
  wheelOwn_loop2004_15 ((0 : Int), (A, (B, (C, (s, (ls, (l1, (m3, (K3, (x, (y, (L, (m, (K, ())))))))))))))) = some (A, (B, (C, (s, (l1, (ls, (m3, (K3, (x, (y, (L, (m, (K, ()))))))))))))) :=
 loop_idxF (tag := 20040015) (f := fun x => (wheelOwn_step2004_15 x).eval) 96
  (fun i => ((i : Int), (A, (B, (C, (s, (ls, (l1, (m3, (K3, (x, (y, (L, (m, (K, ()))))))))))))))) _
  (fun i hi => by
   obtain ⟨r, hr⟩ : ∃ r, ls[i]? = some r := ⟨_, List.getElem?_eq_getElem (by omega)⟩
   have hrb := hb r (List.mem_of_getElem? hr)
   have hset : ls.set i (r.1, r.2) = ls := set_id hr
   have hin := wo_in2 A B C s (i : Int) r.1 r.2 i ls l1 m3 K3 x y L m K hrb.2
   rw [hset] at hin
   show (wheelOwn_step2004_15 _).eval = _
   unfold wheelOwn_step2004_15
   refine ev_t (by simp <;> omega) (ev_g (by simp <;> omega) (ev_opt (show ls[Int.toNat (i : Int)]? = some r by rw [Int.toNat_natCast]; exact hr) (ev_g (by simp) (ev_g sameN_t (ev_opt (b := (A, (B, (C, (s, ((i : Int), (ls, (l1, (m3, (K3, (x, (y, (L, (m, (K, ()))))))))))))))) ?_ ?_)))))
   . simp only [Int.toNat_natCast]
     exact hin
   . exact ev_g sameN_t (ev_r (by rw [next_i64 i (by omega)])))
  (by
   show (wheelOwn_step2004_15 _).eval = _
   unfold wheelOwn_step2004_15
   exact ev_f (by simp) (ev_g sameN_t (ev_r rfl))) 18446744073709551616 (by omega)
theorem wo_in3 (A B C : Int) (s : Bool) (i0 : Int) (len N h : Nat) (ls : List (Nat × Nat)) (l1 : List (Nat × Nat)) (l2 : List (Nat × Nat)) (x : Int) (y : Int) (L : List (List TDue)) (m : Nat) (K : List (List TDue)) (hN : N <= 9223372036854775807) :
  wheelOwn_loop3004_19 ((0 : Int), ((0 : Nat), (N, (A, (B, (C, (s, (i0, ((N : Int), (len, (N, (h, (ls, (l1, (l2, (x, (y, (L, (m, (K, ())))))))))))))))))))) = some (A, (B, (C, (s, (i0, (ls.set h (len, N), (l1, (l2, (x, (y, (L, (m, (K, ()))))))))))))) :=
 loop_idxF (tag := 30040019) (f := fun x => (wheelOwn_step3004_19 x).eval) N
  (fun i => ((i : Int), ((0 : Nat), (N, (A, (B, (C, (s, (i0, ((N : Int), (len, (N, (h, (ls, (l1, (l2, (x, (y, (L, (m, (K, ()))))))))))))))))))))) _
  (fun i hi => by
   show (wheelOwn_step3004_19 _).eval = _
   unfold wheelOwn_step3004_19
   exact ev_t (by simp <;> omega) (ev_g (by simp <;> omega) (ev_g (by simp <;> omega) (ev_g (by simp <;> omega) (ev_g (by simp <;> omega) (ev_g sameN_t (ev_r (by rw [next_i64 i (by omega)]))))))))
  (by
   show (wheelOwn_step3004_19 _).eval = _
   unfold wheelOwn_step3004_19
   exact ev_f (by simp) (ev_g sameN_t (ev_r rfl))) 18446744073709551616 (by omega)
theorem wo_out3 (A B C : Int) (s : Bool) (ls : List (Nat × Nat)) (l1 : List (Nat × Nat)) (l2 : List (Nat × Nat)) (x : Int) (y : Int) (L : List (List TDue)) (m : Nat) (K : List (List TDue)) (hls : ls.length = 96) (hb : ∀ x ∈ ls, x.1 <= x.2 /\ x.2 <= 9223372036854775807) :
  wheelOwn_loop3004_15 ((0 : Int), (A, (B, (C, (s, (ls, (l1, (l2, (x, (y, (L, (m, (K, ()))))))))))))) = some (A, (B, (C, (s, (l1, (l2, (ls, (x, (y, (L, (m, (K, ())))))))))))) :=
 loop_idxF (tag := 30040015) (f := fun x => (wheelOwn_step3004_15 x).eval) 96
  (fun i => ((i : Int), (A, (B, (C, (s, (ls, (l1, (l2, (x, (y, (L, (m, (K, ())))))))))))))) _
  (fun i hi => by
   obtain ⟨r, hr⟩ : ∃ r, ls[i]? = some r := ⟨_, List.getElem?_eq_getElem (by omega)⟩
   have hrb := hb r (List.mem_of_getElem? hr)
   have hset : ls.set i (r.1, r.2) = ls := set_id hr
   have hin := wo_in3 A B C s (i : Int) r.1 r.2 i ls l1 l2 x y L m K hrb.2
   rw [hset] at hin
   show (wheelOwn_step3004_15 _).eval = _
   unfold wheelOwn_step3004_15
   refine ev_t (by simp <;> omega) (ev_g (by simp <;> omega) (ev_opt (show ls[Int.toNat (i : Int)]? = some r by rw [Int.toNat_natCast]; exact hr) (ev_g (by simp) (ev_g sameN_t (ev_opt (b := (A, (B, (C, (s, ((i : Int), (ls, (l1, (l2, (x, (y, (L, (m, (K, ())))))))))))))) ?_ ?_)))))
   . simp only [Int.toNat_natCast]
     exact hin
   . exact ev_g sameN_t (ev_r (by rw [next_i64 i (by omega)])))
  (by
   show (wheelOwn_step3004_15 _).eval = _
   unfold wheelOwn_step3004_15
   exact ev_f (by simp) (ev_g sameN_t (ev_r rfl))) 18446744073709551616 (by omega)
theorem wheelOwn_true {now : Int} {L : List (List TDue)} {id a n : Int} (b0 : -9223372036854775808 <= now /\ now <= 9223372036854775807) (hL : L.length = 96) (hl : ∀ l ∈ L, BndD 6 (D.st 14 l))
  (hi : -9223372036854775808 <= id /\ id <= 9223372036854775807) (ha : -9223372036854775808 <= a /\ a <= 9223372036854775807) (hn : -9223372036854775808 <= n /\ n <= 9223372036854775807) : wheelOwn.fn (now, (L, (id, (a, (n, ()))))) = some (true, ()) := by
 have hs := small_of hl
 obtain ⟨x1, e1, K1, s1, k1⟩ := setO_fn (now := now) (id := id) (a := a) hL hs
 obtain ⟨x2, e2, K2, s2, k2⟩ := stopO_fn (now := now) (id := id) hL hs
 obtain ⟨x3, e3, K3, l3, s3, k3⟩ := tickO_fn (now := now) (n := n) hL hs hn
 have hsame := wsame_refl (n := now) hL hs
 have hbef : wheelOwn_loop4_3 (0, (n, (id, (a, (now, (now, (L, (0, (gdN (14 : Nat) (96 : Nat) L, ()))))))))) = some (n, (id, (a, (now, (now, (L, (96, (L, ())))))))) := by
  have e : gdN (14 : Nat) (96 : Nat) L = L := gdN_eq (c := 14) hL
  exact (congrArg (fun z => wheelOwn_loop4_3 (0, (n, (id, (a, (now, (now, (L, (0, (z, ())))))))))) e).trans (wo_before n id a hL hs)
 refine jFS_true ?_
 show Holds (wheelOwn_tree _)
 refine ⟨_, ev_g sameN_t (ev_opt hbef (ev_g sameN_t (ev_opt s1 (ev_g sameN_t (ev_opt s2 (ev_g sameN_t (ev_opt s3 (ev_g sameN_t (ev_g sameN_t (ev_opt hsame (ev_t rfl (ev_g (decide_eq_true k1.symm) (ev_r rfl))))))))))))), ?_⟩
 intro ls1 hl1 hb1
 refine ⟨_, ev_g sameN_t (ev_opt (wo_out1 _ _ _ _ ls1 _ _ _ _ _ _ _ _ _ (hl1.trans k1) hb1) (ev_t rfl (ev_g (decide_eq_true k2.symm) (ev_r rfl)))), ?_⟩
 intro ls2 hl2 hb2
 refine ⟨_, ev_g sameN_t (ev_opt (wo_out2 _ _ _ _ ls2 _ _ _ _ _ _ _ _ (hl2.trans k2) hb2) (ev_t rfl (ev_g (decide_eq_true k3.symm) (ev_r rfl)))), ?_⟩
 intro ls3 hl3 hb3
 exact ⟨_, ev_g sameN_t (ev_opt (wo_out3 _ _ _ _ ls3 _ _ _ _ _ _ _ (hl3.trans k3) hb3) (ev_f rfl (ev_opt wlives (ev_t rfl (ev_t rfl (ev_g sameN_t (ev_g sameN_t (ev_opt hsame (ev_r rfl))))))))), rfl⟩
end Go.Proofs.Ytnhiilbmgkbbaaa.X
namespace Go.Proofs.Ytnhiilbmgkbbaaa.WheelOwn
open Go Go.RowKit Go.Proofs.Ytnhiilbmgkbbaaa Go.Proofs.Ytnhiilbmgkbbaaa.Abs
set_option linter.unusedVariables false
set_option maxRecDepth 100000
theorem walk (a0 : Array Value) (a1 : Int) (a2 : Int) (a3 : Int) (w : World) (h0 : Read.Rd Try.prog w 25 a0.toList) (h1 : -9223372036854775808 <= a1 /\ a1 <= 9223372036854775807) (h2 : -9223372036854775808 <= a2 /\ a2 <= 9223372036854775807) (h3 : -9223372036854775808 <= a3 /\ a3 <= 9223372036854775807) : Calls Try.prog 4 #[.agg a0, .int .i64 a1, .int .i64 a2, .int .i64 a3] w fun e w' => e = .returned (.bool true) /\ Below w.heap.size w w' := by
 obtain ⟨n0, L0, g0, r0, q0, bl0⟩ := rd_typedG (cod := X.cod) (k := .i64) (n := 96) (c := 14) (by kernel_rfl) (by kernel_rfl) h0
 have b0 : -9223372036854775808 <= n0 /\ n0 <= 9223372036854775807 := q0
 exact law_told X.wheelOwn rfl (x := (n0, (L0, (a1, (a2, (a3, ())))))) ⟨(true, ()), X.wheelOwn_true b0 g0 bl0 h1 h2 h3, rfl, rfl⟩ (RepArgs.aggG r0 g0 (RepArgs.i (RepArgs.i (RepArgs.i RepArgs.nil)))) rfl
end Go.Proofs.Ytnhiilbmgkbbaaa.WheelOwn
