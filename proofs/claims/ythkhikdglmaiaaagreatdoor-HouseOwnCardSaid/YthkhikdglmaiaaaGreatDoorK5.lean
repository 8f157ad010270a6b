/- Texts towards the law HouseOwn, put together (part 5): an abstract walk and its proof, functions of the program as trees, and plain laws. Conditions: none. -/
import Derived.KernelRfl
import Derived.WalkKit
import Derived.Test.YthkhikdglmaiaaaGreatDoorK4
namespace Go.Proofs.YthkhikdglmaiaaaGreatDoor.X
open Go Go.RowKit Go.Proofs.YthkhikdglmaiaaaGreatDoor.Abs
open Go.IntKind renaming wrap -> wW
set_option maxRecDepth 100000
set_option linter.unusedVariables false
def trHearO_ap : SP := ⟨126, [(0, .v (.one (.st 16 false))), (1, .v (.agg [.i .u32, .i .u32, .i .i64, .i .i64])), (2, .v (.one (.i .i64))), (3, .v (.one (.i .i64)))], []⟩
def trHearO_rp : SP := ⟨1, [(0, .tup [.one (.own 2000000), .one (.b), .one (.i .i64)])], [(2000000, .row 64 16 true true)]⟩
abbrev y3 {a0 a1 a2 b c : Type} (x : a0 × a1 × a2 × b × c) : b := x.2.2.2.1
abbrev y4 {a0 a1 a2 a3 b c : Type} (x : a0 × a1 × a2 × a3 × b × c) : b := x.2.2.2.2.1
abbrev y5 {a0 a1 a2 a3 a4 b c : Type} (x : a0 × a1 × a2 × a3 × a4 × b × c) : b := x.2.2.2.2.2.1
abbrev y6 {a0 a1 a2 a3 a4 a5 b c : Type} (x : a0 × a1 × a2 × a3 × a4 × a5 × b × c) : b := x.2.2.2.2.2.2.1
abbrev gd {α : Type} (n : Nat) (t : Tr α) : Tr α := .grd (decide (n = n)) t
def trHearO_tree : ((List TTalk) × (Int × (Int × (Int × (Int × (Int × (Int × Unit))))))) -> Tr (Bool × (Int × ((List TTalk) × Unit))) :=
 fun (a0, a1, a2, a3, a4, a5, a6, _) =>
 .grd (decide (((0 : Nat) + a0.length) * (48 : Nat) <= (140737488355328 : Nat) /\ (0 : Nat) + a0.length <= (9223372036854775807 : Nat))) (
 .opt ((trCheck_fn (a0, ()))) (fun r0 =>
 .ite (!decide (r0.1 = 0)) (
 gd a0.length (
 .ret (false, (r0.1, (a0, ()))))) (
 .ite (decide (0 < (↑(a0.length) : Int))) (
 .grd (decide (0 <= wW .i64 ((↑(a0.length) : Int) - 1) /\ wW .i64 ((↑(a0.length) : Int) - 1) < (↑(a0.length) : Int))) (
 .opt (a0[Int.toNat (wW .i64 ((↑(a0.length) : Int) - 1))]?) (fun r1 =>
 .opt ((trRoad_fn (a1, (a2, (a3, (a4, ())))))) (fun r2 =>
 .ite (!r2.1) (
 gd a0.length (
 .ret (false, (1, (a0, ()))))) (
 .ite (decide (a5 < 0)) (
 gd a0.length (
 .ret (false, (1, (a0, ()))))) (
 .ite (decide (255 < a5)) (
 gd a0.length (
 .ret (false, (1, (a0, ()))))) (
 .ite (decide (a6 < r1.at')) (
 gd a0.length (
 .ret (false, (1, (a0, ()))))) (
 .ite (decide (1099511627776 < a6)) (
 gd a0.length (
 .ret (false, (1, (a0, ()))))) (
 .grd (decide (((0 : Nat) + a0.length) * (48 : Nat) <= (140737488355328 : Nat) /\ (0 : Nat) + a0.length <= (9223372036854775807 : Nat))) (
 gd a0.length (
 .opt ((dfTalk_fn (a6, (a0, ())))) (fun r3 =>
 .opt ((trPlace_fn (r3.2.1, (a1, (a2, (a3, (a4, ()))))))) (fun r4 =>
 .ite (decide (r4.1 < 0)) (
 .ite (!((!decide (bits .and .i64 a5 2 = (0 : Int))) == true && ((!decide (bits .and .i64 a5 16 = (0 : Int))) == false && ((!decide (bits .and .i64 a5 1 = (0 : Int))) == false && ((!decide (bits .and .i64 a5 4 = (0 : Int))) == false && true))))) (
 .grd (decide (List.length r3.2.fst = List.length r3.2.1)) (
 .ret (false, (0, (r3.2.1, ()))))) (
 .ite (decide ((↑(List.length r3.2.fst) : Int) = 64)) (
 gd a0.length (
 .ret (false, (6, (a0, ()))))) (
 .grd (decide ((List.length r3.2.1 + List.length [TTalk.mk a1 a2 a3 a4 (1 : Int) (0 : Int) r3.1]) * (48 : Nat) <= (140737488355328 : Nat) /\ List.length r3.2.1 + List.length [TTalk.mk a1 a2 a3 a4 (1 : Int) (0 : Int) r3.1] <= (9223372036854775807 : Nat))) (
 .grd (decide (List.length (r3.2.1 ++ [TTalk.mk a1 a2 a3 a4 (1 : Int) (0 : Int) r3.1]) = List.length (r3.2.1 ++ [TTalk.mk a1 a2 a3 a4 (1 : Int) (0 : Int) r3.1]))) (
 .ret (true, (0, (r3.2.1 ++ [TTalk.mk a1 a2 a3 a4 (1 : Int) (0 : Int) r3.1], ())))))))) (
 .grd (decide (0 <= r4.1 /\ r4.1 < (↑(List.length r3.2.fst) : Int))) (
 .opt (r3.2.1[Int.toNat r4.1]?) (fun r5 =>
 .ite (!!decide (bits .and .i64 a5 4 = (0 : Int))) (
 .opt ((trPasses_fn (!decide (bits .and .i64 a5 2 = (0 : Int)), (!decide (bits .and .i64 a5 16 = (0 : Int)), (!decide (bits .and .i64 a5 1 = (0 : Int)), (!decide (bits .and .i64 a5 4 = (0 : Int)), (decide (r5.from' = a1) && (decide (r5.to = a2) && (decide (r5.fromPort = a3) && (decide (r5.toPort = a4) && true))), (r5.from', (r5.to, (r5.fromPort, (r5.toPort, (r5.state, (r5.over, (r5.at', ())))))))))))))) (fun r6 =>
 .ite (!r6.1) (
 .grd (decide (List.length r3.2.fst = List.length r3.2.1)) (
 .ret (false, (0, (r3.2.1, ()))))) (
 .grd (decide (List.length r3.2.fst = List.length r3.2.1)) (
 .opt ((delTalk_fn (r4.1, (wW .i64 (r4.1 + 1), (r3.2.1, ()))))) (fun r7 =>
 .ite (!decide (bits .and .i64 a5 4 = (0 : Int))) (
 .grd (decide (List.length r7.fst = List.length r7.1)) (
 .ret (true, (0, (r7.1, ()))))) (
 .grd (decide ((List.length r7.1 + List.length [TTalk.mk r6.2.1 r6.2.2.1 (y3 r6) (y4 r6) (y5 r6) (y6 r6) r3.1]) * (48 : Nat) <= (140737488355328 : Nat) /\ List.length r7.1 + List.length [TTalk.mk r6.2.1 r6.2.2.1 (y3 r6) (y4 r6) (y5 r6) (y6 r6) r3.1] <= (9223372036854775807 : Nat))) (
 .grd (decide (List.length (r7.1 ++ [TTalk.mk r6.2.1 r6.2.2.1 (y3 r6) (y4 r6) (y5 r6) (y6 r6) r3.1]) = List.length (r7.1 ++ [TTalk.mk r6.2.1 r6.2.2.1 (y3 r6) (y4 r6) (y5 r6) (y6 r6) r3.1]))) (
 .ret (true, (0, (r7.1 ++ [TTalk.mk r6.2.1 r6.2.2.1 (y3 r6) (y4 r6) (y5 r6) (y6 r6) r3.1], ()))))))))))) (
 .grd (decide (List.length r3.2.fst = List.length r3.2.1)) (
 .opt ((delTalk_fn (r4.1, (wW .i64 (r4.1 + 1), (r3.2.1, ()))))) (fun r6 =>
 .ite (!decide (bits .and .i64 a5 4 = (0 : Int))) (
 .grd (decide (List.length r6.fst = List.length r6.1)) (
 .ret (true, (0, (r6.1, ()))))) (
 .grd (decide ((List.length r6.1 + List.length [TTalk.mk r5.from' r5.to r5.fromPort r5.toPort r5.state r5.over r3.1]) * (48 : Nat) <= (140737488355328 : Nat) /\ List.length r6.1 + List.length [TTalk.mk r5.from' r5.to r5.fromPort r5.toPort r5.state r5.over r3.1] <= (9223372036854775807 : Nat))) (
 .grd (decide (List.length (r6.1 ++ [TTalk.mk r5.from' r5.to r5.fromPort r5.toPort r5.state r5.over r3.1]) = List.length (r6.1 ++ [TTalk.mk r5.from' r5.to r5.fromPort r5.toPort r5.state r5.over r3.1]))) (
 .ret (true, (0, (r6.1 ++ [TTalk.mk r5.from' r5.to r5.fromPort r5.toPort r5.state r5.over r3.1], ()))))))))))))))))))))))))) (
 .opt ((trRoad_fn (a1, (a2, (a3, (a4, ())))))) (fun r1 =>
 .ite (!r1.1) (
 gd a0.length (
 .ret (false, (1, (a0, ()))))) (
 .ite (decide (a5 < 0)) (
 gd a0.length (
 .ret (false, (1, (a0, ()))))) (
 .ite (decide (255 < a5)) (
 gd a0.length (
 .ret (false, (1, (a0, ()))))) (
 .ite (decide (a6 < 0)) (
 gd a0.length (
 .ret (false, (1, (a0, ()))))) (
 .ite (decide (1099511627776 < a6)) (
 gd a0.length (
 .ret (false, (1, (a0, ()))))) (
 .grd (decide (((0 : Nat) + a0.length) * (48 : Nat) <= (140737488355328 : Nat) /\ (0 : Nat) + a0.length <= (9223372036854775807 : Nat))) (
 gd a0.length (
 .opt ((dfTalk_fn (a6, (a0, ())))) (fun r2 =>
 .opt ((trPlace_fn (r2.2.1, (a1, (a2, (a3, (a4, ()))))))) (fun r3 =>
 .ite (decide (r3.1 < 0)) (
 .ite (!((!decide (bits .and .i64 a5 2 = (0 : Int))) == true && ((!decide (bits .and .i64 a5 16 = (0 : Int))) == false && ((!decide (bits .and .i64 a5 1 = (0 : Int))) == false && ((!decide (bits .and .i64 a5 4 = (0 : Int))) == false && true))))) (
 .grd (decide (List.length r2.2.fst = List.length r2.2.1)) (
 .ret (false, (0, (r2.2.1, ()))))) (
 .ite (decide ((↑(List.length r2.2.fst) : Int) = 64)) (
 gd a0.length (
 .ret (false, (6, (a0, ()))))) (
 .grd (decide ((List.length r2.2.1 + List.length [TTalk.mk a1 a2 a3 a4 (1 : Int) (0 : Int) r2.1]) * (48 : Nat) <= (140737488355328 : Nat) /\ List.length r2.2.1 + List.length [TTalk.mk a1 a2 a3 a4 (1 : Int) (0 : Int) r2.1] <= (9223372036854775807 : Nat))) (
 .grd (decide (List.length (r2.2.1 ++ [TTalk.mk a1 a2 a3 a4 (1 : Int) (0 : Int) r2.1]) = List.length (r2.2.1 ++ [TTalk.mk a1 a2 a3 a4 (1 : Int) (0 : Int) r2.1]))) (
 .ret (true, (0, (r2.2.1 ++ [TTalk.mk a1 a2 a3 a4 (1 : Int) (0 : Int) r2.1], ())))))))) (
 .grd (decide (0 <= r3.1 /\ r3.1 < (↑(List.length r2.2.fst) : Int))) (
 .opt (r2.2.1[Int.toNat r3.1]?) (fun r4 =>
 .ite (!!decide (bits .and .i64 a5 4 = (0 : Int))) (
 .opt ((trPasses_fn (!decide (bits .and .i64 a5 2 = (0 : Int)), (!decide (bits .and .i64 a5 16 = (0 : Int)), (!decide (bits .and .i64 a5 1 = (0 : Int)), (!decide (bits .and .i64 a5 4 = (0 : Int)), (decide (r4.from' = a1) && (decide (r4.to = a2) && (decide (r4.fromPort = a3) && (decide (r4.toPort = a4) && true))), (r4.from', (r4.to, (r4.fromPort, (r4.toPort, (r4.state, (r4.over, (r4.at', ())))))))))))))) (fun r5 =>
 .ite (!r5.1) (
 .grd (decide (List.length r2.2.fst = List.length r2.2.1)) (
 .ret (false, (0, (r2.2.1, ()))))) (
 .grd (decide (List.length r2.2.fst = List.length r2.2.1)) (
 .opt ((delTalk_fn (r3.1, (wW .i64 (r3.1 + 1), (r2.2.1, ()))))) (fun r6 =>
 .ite (!decide (bits .and .i64 a5 4 = (0 : Int))) (
 .grd (decide (List.length r6.fst = List.length r6.1)) (
 .ret (true, (0, (r6.1, ()))))) (
 .grd (decide ((List.length r6.1 + List.length [TTalk.mk r5.2.1 r5.2.2.1 (y3 r5) (y4 r5) (y5 r5) (y6 r5) r2.1]) * (48 : Nat) <= (140737488355328 : Nat) /\ List.length r6.1 + List.length [TTalk.mk r5.2.1 r5.2.2.1 (y3 r5) (y4 r5) (y5 r5) (y6 r5) r2.1] <= (9223372036854775807 : Nat))) (
 .grd (decide (List.length (r6.1 ++ [TTalk.mk r5.2.1 r5.2.2.1 (y3 r5) (y4 r5) (y5 r5) (y6 r5) r2.1]) = List.length (r6.1 ++ [TTalk.mk r5.2.1 r5.2.2.1 (y3 r5) (y4 r5) (y5 r5) (y6 r5) r2.1]))) (
 .ret (true, (0, (r6.1 ++ [TTalk.mk r5.2.1 r5.2.2.1 (y3 r5) (y4 r5) (y5 r5) (y6 r5) r2.1], ()))))))))))) (
 .grd (decide (List.length r2.2.fst = List.length r2.2.1)) (
 .opt ((delTalk_fn (r3.1, (wW .i64 (r3.1 + 1), (r2.2.1, ()))))) (fun r5 =>
 .ite (!decide (bits .and .i64 a5 4 = (0 : Int))) (
 .grd (decide (List.length r5.fst = List.length r5.1)) (
 .ret (true, (0, (r5.1, ()))))) (
 .grd (decide ((List.length r5.1 + List.length [TTalk.mk r4.from' r4.to r4.fromPort r4.toPort r4.state r4.over r2.1]) * (48 : Nat) <= (140737488355328 : Nat) /\ List.length r5.1 + List.length [TTalk.mk r4.from' r4.to r4.fromPort r4.toPort r4.state r4.over r2.1] <= (9223372036854775807 : Nat))) (
 .grd (decide (List.length (r5.1 ++ [TTalk.mk r4.from' r4.to r4.fromPort r4.toPort r4.state r4.over r2.1]) = List.length (r5.1 ++ [TTalk.mk r4.from' r4.to r4.fromPort r4.toPort r4.state r4.over r2.1]))) (
 .ret (true, (0, (r5.1 ++ [TTalk.mk r4.from' r4.to r4.fromPort r4.toPort r4.state r4.over r2.1], ()))))))))))))))))))))))))))
noncomputable def gm65 : List (PF Go.Proofs.Tryz.prog) := gm63 ++ [clTalk, GS.pf delTalk, FS.pf trTurned, FS.pf trPort, FS.pf trRoad, FS.pf trForm, FS.pf trPlace, FS.pf trCheck, FS.pf trOld, GS.pf dfTalk, GS.pf trOpen, GS.pf trPasses, FS.pf trFind, FS.pf buCheck, FS.pf buLev, FS.pf buTake, clRule, FS.pf ruNet, FS.pf ruHas, FS.pf ruBounds, FS.pf ruRight, FS.pf ruCheck, FS.pf ruMeets, FS.pf ruDecide, tz64, FS.pf portsCheck, FS.pf portsLet, FS.pf portsEnd, FS.pf confCheck, clMap, GS.pf delMap, FS.pf eqMap, FS.pf natWithin, FS.pf natCheck, natPlace, GS.pf natExpire, FS.pf natIn, clMeter, GS.pf delMeter, FS.pf hsMeter, FS.pf hsLast, FS.pf hsCheck, FS.pf hsNew, FS.pf hsHear, FS.pf letterPacket, FS.pf kHouseLives]
theorem trHearO_eq (x : ((List TTalk) × (Int × (Int × (Int × (Int × (Int × (Int × Unit)))))))) : gsTr Tryz.prog cod gm65 [] 30 169 trHearO_ap trHearO_rp x = trHearO_tree x := by kernel_rfl
def trHearO_fn (x : ((List TTalk) × (Int × (Int × (Int × (Int × (Int × (Int × Unit)))))))) : Option (Bool × (Int × ((List TTalk) × Unit))) := (trHearO_tree x).eval
def trHearO : GS Tryz.prog := ⟨169, [0, 0, 0, 0], trHearO_ap, trHearO_rp, trHearO_fn, fun x r h ys m g he hg => gs_sound (cod := cod) (Γ := gm65) (Λs := []) (n := 30) ((congrArg Tr.eval (trHearO_eq x)).trans h) he hg⟩
def natOutO_ap : SP := ⟨132, [(0, .v (.agg [.i .i64, .i .i64, .i .u64, .i .i64, .i .u64, .st 17 false])), (1, .v (.one (.i .i64))), (2, .v (.one (.i .u32))), (3, .v (.one (.i .i64))), (4, .v (.one (.i .i64)))], []⟩
def natOutO_rp : SP := ⟨1, [(0, .tup [.agg [.i .i64, .i .i64, .i .u64, .i .i64, .i .u64, .own 2000000], .one (.i .i64), .one (.i .i64)])], [(2000000, .row 67 17 true true)]⟩
def natOutO_tree : ty12_ -> Tr (Int × (Int × (Int × (Int × (Int × (Int × (Int × ((List TMap) × Unit)))))))) :=
 fun (a0, a1, a2, a3, a4, a5, a6, a7, a8, a9, _) =>
 .grd (decide (((0 : Nat) + a5.length) * (40 : Nat) <= (140737488355328 : Nat) /\ (0 : Nat) + a5.length <= (9223372036854775807 : Nat))) (
 .opt ((natCheck_fn (a0, (a1, (a2, (a3, (a4, (a5, ())))))))) (fun r0 =>
 .ite (!decide (r0.1 = 0)) (
 gd a5.length (
 .ret (a0, (a1, (a2, (a3, (a4, (0, (r0.1, (a5, ())))))))))) (
 .ite (decide (0 < (↑(a5.length) : Int))) (
 .grd (decide (0 <= wW .i64 ((↑(a5.length) : Int) - 1) /\ wW .i64 ((↑(a5.length) : Int) - 1) < (↑(a5.length) : Int))) (
 .opt (a5[Int.toNat (wW .i64 ((↑(a5.length) : Int) - 1))]?) (fun r1 =>
 .ite (!decide (a6 = 6)) (
 .ite (!decide (a6 = 17)) (
 gd a5.length (
 .ret (a0, (a1, (a2, (a3, (a4, (0, (7, (a5, ())))))))))) (
 .ite (decide (a8 < 0)) (
 gd a5.length (
 .ret (a0, (a1, (a2, (a3, (a4, (0, (1, (a5, ())))))))))) (
 .ite (decide (65535 < a8)) (
 gd a5.length (
 .ret (a0, (a1, (a2, (a3, (a4, (0, (1, (a5, ())))))))))) (
 .ite (decide (a9 < r1.at')) (
 gd a5.length (
 .ret (a0, (a1, (a2, (a3, (a4, (0, (1, (a5, ())))))))))) (
 .ite (decide (1099511627776 < a9)) (
 gd a5.length (
 .ret (a0, (a1, (a2, (a3, (a4, (0, (1, (a5, ())))))))))) (
 .grd (decide (((0 : Nat) + a5.length) * (40 : Nat) <= (140737488355328 : Nat) /\ (0 : Nat) + a5.length <= (9223372036854775807 : Nat))) (
 gd a5.length (
 .opt ((natExpire_fn (a9, (a0, (a1, (a2, (a3, (a4, (a5, ()))))))))) (fun r2 =>
 .opt ((natWithin_fn (r2.1, (r2.2.1, (r2.2.2.1, (y3 r2, (y4 r2, (y5 r2, (a6, (a7, (a8, ()))))))))))) (fun r3 =>
 .ite (decide (0 <= r3.1)) (
 .grd (decide (0 <= r3.1 /\ r3.1 < (↑((y5 r2).length) : Int))) (
 .opt ((y5 r2)[Int.toNat r3.1]?) (fun r4 =>
 gd (y5 r2).length (
 .opt ((delMap_fn (r3.1, (wW .i64 (r3.1 + 1), (y5 r2, ()))))) (fun r5 =>
 .grd (decide ((List.length r5.1 + List.length [TMap.mk a6 a7 a8 r4.out a9]) * (40 : Nat) <= (140737488355328 : Nat) /\ List.length r5.1 + List.length [TMap.mk a6 a7 a8 r4.out a9] <= (9223372036854775807 : Nat))) (
 .grd (decide (List.length (r5.1 ++ [TMap.mk a6 a7 a8 r4.out a9]) = List.length (r5.1 ++ [TMap.mk a6 a7 a8 r4.out a9]))) (
 .ret (r2.1, (r2.2.1, (r2.2.2.1, (y3 r2, (y4 r2, (r4.out, (0, (r5.1 ++ [TMap.mk a6 a7 a8 r4.out a9], ()))))))))))))))) (
 .ite (decide (a6 = 17)) (
 .opt ((portsLet_fn (r2.2.1, (r2.2.2.1, (a8, ()))))) (fun r4 =>
 .ite (!decide ((y3 r4) = 0)) (
 gd a5.length (
 .ret (a0, (a1, (a2, (a3, (a4, (0, (y3 r4, (a5, ())))))))))) (
 .grd (decide (((y5 r2).length + List.length [TMap.mk a6 a7 a8 r4.2.2.1 a9]) * (40 : Nat) <= (140737488355328 : Nat) /\ (y5 r2).length + List.length [TMap.mk a6 a7 a8 r4.2.2.1 a9] <= (9223372036854775807 : Nat))) (
 .grd (decide (List.length ((y5 r2) ++ [TMap.mk a6 a7 a8 r4.2.2.1 a9]) = List.length ((y5 r2) ++ [TMap.mk a6 a7 a8 r4.2.2.1 a9]))) (
 .ret (r2.1, (r4.1, (r4.2.1, (y3 r2, (y4 r2, (r4.2.2.1, (0, ((y5 r2) ++ [TMap.mk a6 a7 a8 r4.2.2.1 a9], ()))))))))))))) (
 .ite (decide (a6 = 6)) (
 .opt ((portsLet_fn (y3 r2, (y4 r2, (a8, ()))))) (fun r4 =>
 .ite (!decide ((y3 r4) = 0)) (
 gd a5.length (
 .ret (a0, (a1, (a2, (a3, (a4, (0, (y3 r4, (a5, ())))))))))) (
 .grd (decide (((y5 r2).length + List.length [TMap.mk a6 a7 a8 r4.2.2.1 a9]) * (40 : Nat) <= (140737488355328 : Nat) /\ (y5 r2).length + List.length [TMap.mk a6 a7 a8 r4.2.2.1 a9] <= (9223372036854775807 : Nat))) (
 .grd (decide (List.length ((y5 r2) ++ [TMap.mk a6 a7 a8 r4.2.2.1 a9]) = List.length ((y5 r2) ++ [TMap.mk a6 a7 a8 r4.2.2.1 a9]))) (
 .ret (r2.1, (r2.2.1, (r2.2.2.1, (r4.1, (r4.2.1, (r4.2.2.1, (0, ((y5 r2) ++ [TMap.mk a6 a7 a8 r4.2.2.1 a9], ()))))))))))))) (
 .fail 3))))))))))))) (
 .ite (decide (a8 < 0)) (
 gd a5.length (
 .ret (a0, (a1, (a2, (a3, (a4, (0, (1, (a5, ())))))))))) (
 .ite (decide (65535 < a8)) (
 gd a5.length (
 .ret (a0, (a1, (a2, (a3, (a4, (0, (1, (a5, ())))))))))) (
 .ite (decide (a9 < r1.at')) (
 gd a5.length (
 .ret (a0, (a1, (a2, (a3, (a4, (0, (1, (a5, ())))))))))) (
 .ite (decide (1099511627776 < a9)) (
 gd a5.length (
 .ret (a0, (a1, (a2, (a3, (a4, (0, (1, (a5, ())))))))))) (
 .grd (decide (((0 : Nat) + a5.length) * (40 : Nat) <= (140737488355328 : Nat) /\ (0 : Nat) + a5.length <= (9223372036854775807 : Nat))) (
 gd a5.length (
 .opt ((natExpire_fn (a9, (a0, (a1, (a2, (a3, (a4, (a5, ()))))))))) (fun r2 =>
 .opt ((natWithin_fn (r2.1, (r2.2.1, (r2.2.2.1, (y3 r2, (y4 r2, (y5 r2, (a6, (a7, (a8, ()))))))))))) (fun r3 =>
 .ite (decide (0 <= r3.1)) (
 .grd (decide (0 <= r3.1 /\ r3.1 < (↑((y5 r2).length) : Int))) (
 .opt ((y5 r2)[Int.toNat r3.1]?) (fun r4 =>
 gd (y5 r2).length (
 .opt ((delMap_fn (r3.1, (wW .i64 (r3.1 + 1), (y5 r2, ()))))) (fun r5 =>
 .grd (decide ((List.length r5.1 + List.length [TMap.mk a6 a7 a8 r4.out a9]) * (40 : Nat) <= (140737488355328 : Nat) /\ List.length r5.1 + List.length [TMap.mk a6 a7 a8 r4.out a9] <= (9223372036854775807 : Nat))) (
 .grd (decide (List.length (r5.1 ++ [TMap.mk a6 a7 a8 r4.out a9]) = List.length (r5.1 ++ [TMap.mk a6 a7 a8 r4.out a9]))) (
 .ret (r2.1, (r2.2.1, (r2.2.2.1, (y3 r2, (y4 r2, (r4.out, (0, (r5.1 ++ [TMap.mk a6 a7 a8 r4.out a9], ()))))))))))))))) (
 .ite (decide (a6 = 17)) (
 .opt ((portsLet_fn (r2.2.1, (r2.2.2.1, (a8, ()))))) (fun r4 =>
 .ite (!decide ((y3 r4) = 0)) (
 gd a5.length (
 .ret (a0, (a1, (a2, (a3, (a4, (0, (y3 r4, (a5, ())))))))))) (
 .grd (decide (((y5 r2).length + List.length [TMap.mk a6 a7 a8 r4.2.2.1 a9]) * (40 : Nat) <= (140737488355328 : Nat) /\ (y5 r2).length + List.length [TMap.mk a6 a7 a8 r4.2.2.1 a9] <= (9223372036854775807 : Nat))) (
 .grd (decide (List.length ((y5 r2) ++ [TMap.mk a6 a7 a8 r4.2.2.1 a9]) = List.length ((y5 r2) ++ [TMap.mk a6 a7 a8 r4.2.2.1 a9]))) (
 .ret (r2.1, (r4.1, (r4.2.1, (y3 r2, (y4 r2, (r4.2.2.1, (0, ((y5 r2) ++ [TMap.mk a6 a7 a8 r4.2.2.1 a9], ()))))))))))))) (
 .ite (decide (a6 = 6)) (
 .opt ((portsLet_fn (y3 r2, (y4 r2, (a8, ()))))) (fun r4 =>
 .ite (!decide ((y3 r4) = 0)) (
 gd a5.length (
 .ret (a0, (a1, (a2, (a3, (a4, (0, (y3 r4, (a5, ())))))))))) (
 .grd (decide (((y5 r2).length + List.length [TMap.mk a6 a7 a8 r4.2.2.1 a9]) * (40 : Nat) <= (140737488355328 : Nat) /\ (y5 r2).length + List.length [TMap.mk a6 a7 a8 r4.2.2.1 a9] <= (9223372036854775807 : Nat))) (
 .grd (decide (List.length ((y5 r2) ++ [TMap.mk a6 a7 a8 r4.2.2.1 a9]) = List.length ((y5 r2) ++ [TMap.mk a6 a7 a8 r4.2.2.1 a9]))) (
 .ret (r2.1, (r2.2.1, (r2.2.2.1, (r4.1, (r4.2.1, (r4.2.2.1, (0, ((y5 r2) ++ [TMap.mk a6 a7 a8 r4.2.2.1 a9], ()))))))))))))) (
 .fail 3))))))))))))))) (
 .ite (!decide (a6 = 6)) (
 .ite (!decide (a6 = 17)) (
 gd a5.length (
 .ret (a0, (a1, (a2, (a3, (a4, (0, (7, (a5, ())))))))))) (
 .ite (decide (a8 < 0)) (
 gd a5.length (
 .ret (a0, (a1, (a2, (a3, (a4, (0, (1, (a5, ())))))))))) (
 .ite (decide (65535 < a8)) (
 gd a5.length (
 .ret (a0, (a1, (a2, (a3, (a4, (0, (1, (a5, ())))))))))) (
 .ite (decide (a9 < 0)) (
 gd a5.length (
 .ret (a0, (a1, (a2, (a3, (a4, (0, (1, (a5, ())))))))))) (
 .ite (decide (1099511627776 < a9)) (
 gd a5.length (
 .ret (a0, (a1, (a2, (a3, (a4, (0, (1, (a5, ())))))))))) (
 .grd (decide (((0 : Nat) + a5.length) * (40 : Nat) <= (140737488355328 : Nat) /\ (0 : Nat) + a5.length <= (9223372036854775807 : Nat))) (
 gd a5.length (
 .opt ((natExpire_fn (a9, (a0, (a1, (a2, (a3, (a4, (a5, ()))))))))) (fun r1 =>
 .opt ((natWithin_fn (r1.1, (r1.2.1, (r1.2.2.1, (y3 r1, (y4 r1, (y5 r1, (a6, (a7, (a8, ()))))))))))) (fun r2 =>
 .ite (decide (0 <= r2.1)) (
 .grd (decide (0 <= r2.1 /\ r2.1 < (↑((y5 r1).length) : Int))) (
 .opt ((y5 r1)[Int.toNat r2.1]?) (fun r3 =>
 gd (y5 r1).length (
 .opt ((delMap_fn (r2.1, (wW .i64 (r2.1 + 1), (y5 r1, ()))))) (fun r4 =>
 .grd (decide ((List.length r4.1 + List.length [TMap.mk a6 a7 a8 r3.out a9]) * (40 : Nat) <= (140737488355328 : Nat) /\ List.length r4.1 + List.length [TMap.mk a6 a7 a8 r3.out a9] <= (9223372036854775807 : Nat))) (
 .grd (decide (List.length (r4.1 ++ [TMap.mk a6 a7 a8 r3.out a9]) = List.length (r4.1 ++ [TMap.mk a6 a7 a8 r3.out a9]))) (
 .ret (r1.1, (r1.2.1, (r1.2.2.1, (y3 r1, (y4 r1, (r3.out, (0, (r4.1 ++ [TMap.mk a6 a7 a8 r3.out a9], ()))))))))))))))) (
 .ite (decide (a6 = 17)) (
 .opt ((portsLet_fn (r1.2.1, (r1.2.2.1, (a8, ()))))) (fun r3 =>
 .ite (!decide ((y3 r3) = 0)) (
 gd a5.length (
 .ret (a0, (a1, (a2, (a3, (a4, (0, (y3 r3, (a5, ())))))))))) (
 .grd (decide (((y5 r1).length + List.length [TMap.mk a6 a7 a8 r3.2.2.1 a9]) * (40 : Nat) <= (140737488355328 : Nat) /\ (y5 r1).length + List.length [TMap.mk a6 a7 a8 r3.2.2.1 a9] <= (9223372036854775807 : Nat))) (
 .grd (decide (List.length ((y5 r1) ++ [TMap.mk a6 a7 a8 r3.2.2.1 a9]) = List.length ((y5 r1) ++ [TMap.mk a6 a7 a8 r3.2.2.1 a9]))) (
 .ret (r1.1, (r3.1, (r3.2.1, (y3 r1, (y4 r1, (r3.2.2.1, (0, ((y5 r1) ++ [TMap.mk a6 a7 a8 r3.2.2.1 a9], ()))))))))))))) (
 .ite (decide (a6 = 6)) (
 .opt ((portsLet_fn (y3 r1, (y4 r1, (a8, ()))))) (fun r3 =>
 .ite (!decide ((y3 r3) = 0)) (
 gd a5.length (
 .ret (a0, (a1, (a2, (a3, (a4, (0, (y3 r3, (a5, ())))))))))) (
 .grd (decide (((y5 r1).length + List.length [TMap.mk a6 a7 a8 r3.2.2.1 a9]) * (40 : Nat) <= (140737488355328 : Nat) /\ (y5 r1).length + List.length [TMap.mk a6 a7 a8 r3.2.2.1 a9] <= (9223372036854775807 : Nat))) (
 .grd (decide (List.length ((y5 r1) ++ [TMap.mk a6 a7 a8 r3.2.2.1 a9]) = List.length ((y5 r1) ++ [TMap.mk a6 a7 a8 r3.2.2.1 a9]))) (
 .ret (r1.1, (r1.2.1, (r1.2.2.1, (r3.1, (r3.2.1, (r3.2.2.1, (0, ((y5 r1) ++ [TMap.mk a6 a7 a8 r3.2.2.1 a9], ()))))))))))))) (
 .fail 3))))))))))))) (
 .ite (decide (a8 < 0)) (
 gd a5.length (
 .ret (a0, (a1, (a2, (a3, (a4, (0, (1, (a5, ())))))))))) (
 .ite (decide (65535 < a8)) (
 gd a5.length (
 .ret (a0, (a1, (a2, (a3, (a4, (0, (1, (a5, ())))))))))) (
 .ite (decide (a9 < 0)) (
 gd a5.length (
 .ret (a0, (a1, (a2, (a3, (a4, (0, (1, (a5, ())))))))))) (
 .ite (decide (1099511627776 < a9)) (
 gd a5.length (
 .ret (a0, (a1, (a2, (a3, (a4, (0, (1, (a5, ())))))))))) (
 .grd (decide (((0 : Nat) + a5.length) * (40 : Nat) <= (140737488355328 : Nat) /\ (0 : Nat) + a5.length <= (9223372036854775807 : Nat))) (
 gd a5.length (
 .opt ((natExpire_fn (a9, (a0, (a1, (a2, (a3, (a4, (a5, ()))))))))) (fun r1 =>
 .opt ((natWithin_fn (r1.1, (r1.2.1, (r1.2.2.1, (y3 r1, (y4 r1, (y5 r1, (a6, (a7, (a8, ()))))))))))) (fun r2 =>
 .ite (decide (0 <= r2.1)) (
 .grd (decide (0 <= r2.1 /\ r2.1 < (↑((y5 r1).length) : Int))) (
 .opt ((y5 r1)[Int.toNat r2.1]?) (fun r3 =>
 gd (y5 r1).length (
 .opt ((delMap_fn (r2.1, (wW .i64 (r2.1 + 1), (y5 r1, ()))))) (fun r4 =>
 .grd (decide ((List.length r4.1 + List.length [TMap.mk a6 a7 a8 r3.out a9]) * (40 : Nat) <= (140737488355328 : Nat) /\ List.length r4.1 + List.length [TMap.mk a6 a7 a8 r3.out a9] <= (9223372036854775807 : Nat))) (
 .grd (decide (List.length (r4.1 ++ [TMap.mk a6 a7 a8 r3.out a9]) = List.length (r4.1 ++ [TMap.mk a6 a7 a8 r3.out a9]))) (
 .ret (r1.1, (r1.2.1, (r1.2.2.1, (y3 r1, (y4 r1, (r3.out, (0, (r4.1 ++ [TMap.mk a6 a7 a8 r3.out a9], ()))))))))))))))) (
 .ite (decide (a6 = 17)) (
 .opt ((portsLet_fn (r1.2.1, (r1.2.2.1, (a8, ()))))) (fun r3 =>
 .ite (!decide ((y3 r3) = 0)) (
 gd a5.length (
 .ret (a0, (a1, (a2, (a3, (a4, (0, (y3 r3, (a5, ())))))))))) (
 .grd (decide (((y5 r1).length + List.length [TMap.mk a6 a7 a8 r3.2.2.1 a9]) * (40 : Nat) <= (140737488355328 : Nat) /\ (y5 r1).length + List.length [TMap.mk a6 a7 a8 r3.2.2.1 a9] <= (9223372036854775807 : Nat))) (
 .grd (decide (List.length ((y5 r1) ++ [TMap.mk a6 a7 a8 r3.2.2.1 a9]) = List.length ((y5 r1) ++ [TMap.mk a6 a7 a8 r3.2.2.1 a9]))) (
 .ret (r1.1, (r3.1, (r3.2.1, (y3 r1, (y4 r1, (r3.2.2.1, (0, ((y5 r1) ++ [TMap.mk a6 a7 a8 r3.2.2.1 a9], ()))))))))))))) (
 .ite (decide (a6 = 6)) (
 .opt ((portsLet_fn (y3 r1, (y4 r1, (a8, ()))))) (fun r3 =>
 .ite (!decide ((y3 r3) = 0)) (
 gd a5.length (
 .ret (a0, (a1, (a2, (a3, (a4, (0, (y3 r3, (a5, ())))))))))) (
 .grd (decide (((y5 r1).length + List.length [TMap.mk a6 a7 a8 r3.2.2.1 a9]) * (40 : Nat) <= (140737488355328 : Nat) /\ (y5 r1).length + List.length [TMap.mk a6 a7 a8 r3.2.2.1 a9] <= (9223372036854775807 : Nat))) (
 .grd (decide (List.length ((y5 r1) ++ [TMap.mk a6 a7 a8 r3.2.2.1 a9]) = List.length ((y5 r1) ++ [TMap.mk a6 a7 a8 r3.2.2.1 a9]))) (
 .ret (r1.1, (r1.2.1, (r1.2.2.1, (r3.1, (r3.2.1, (r3.2.2.1, (0, ((y5 r1) ++ [TMap.mk a6 a7 a8 r3.2.2.1 a9], ()))))))))))))) (
 .fail 3))))))))))))))))
noncomputable def gm66 : List (PF Go.Proofs.Tryz.prog) := gm65 ++ [GS.pf trHearO]
theorem natOutO_eq (x : ty12_) : gsTr Tryz.prog cod gm66 [] 30 140 natOutO_ap natOutO_rp x = natOutO_tree x := by kernel_rfl
def natOutO_fn (x : ty12_) : Option (Int × (Int × (Int × (Int × (Int × (Int × (Int × ((List TMap) × Unit)))))))) := (natOutO_tree x).eval
def natOutO : GS Tryz.prog := ⟨140, [0, 0, 0, 0, 0], natOutO_ap, natOutO_rp, natOutO_fn, fun x r h ys m g he hg => gs_sound (cod := cod) (Γ := gm66) (Λs := []) (n := 30) ((congrArg Tr.eval (natOutO_eq x)).trans h) he hg⟩
def wMeasuredO_ap : SP := ⟨115, [(0, .v (.one (.ptr 1000000 0)))], [(1000000, .cells [.i .u32, .i .i64, .i .i64, .i .i64, .i .i64, .i .i64, .own 1000100, .b, .own 1000101, .own 1000102, .i .i64, .i .i64, .i .u64, .i .i64, .i .u64, .own 1000103, .i .u32, .i .u32, .i .i64, .i .i64, .i .i64, .s, .i .i64]), (1000100, .row 54 10 true true), (1000101, .row 59 19 true true), (1000102, .row 64 16 true true), (1000103, .row 67 17 true true)]⟩
def wMeasuredO_rp : SP := ⟨1, [(0, .v (.one (.b)))], [(1000000, .cells [.i .u32, .i .i64, .i .i64, .i .i64, .i .i64, .i .i64, .own 1000100, .b, .own 1000101, .own 1000102, .i .i64, .i .i64, .i .u64, .i .i64, .i .u64, .own 1000103, .i .u32, .i .u32, .i .i64, .i .i64, .i .i64, .s, .i .i64]), (1000100, .row 54 10 true true), (1000101, .row 59 19 true true), (1000102, .row 64 16 true true), (1000103, .row 67 17 true true)]⟩
abbrev ty25_ : Type := (Int × (Int × (Int × (Int × (Int × (Int × (Bool × (Int × (Int × (Int × (Int × (Int × (Int × (Int × (Int × (Int × (Int × ((List UInt8) × (Int × ((List TRule) × ((List TMeter) × ((List TTalk) × ((List TMap) × Unit)))))))))))))))))))))))
abbrev ty26_ : Type := (Bool × (Int × (Int × (Int × (Int × (Int × (Int × (Bool × (Int × (Int × (Int × (Int × (Int × (Int × (Int × (Int × (Int × (Int × ((List UInt8) × (Int × ((List TRule) × ((List TMeter) × ((List TTalk) × ((List TMap) × Unit))))))))))))))))))))))))
def wMeasuredO_tree : ty25_ -> Tr ty26_ :=
 fun (a0, a1, a2, a3, a4, a5, a6, a7, a8, a9, a10, a11, a12, a13, a14, a15, a16, a17, a18, a19, a20, a21, a22, _) =>
 .opt ((hsMeter_fn (a0, (a1, (a2, (a3, (a4, (a5, (a19, (a6, (a20, (a21, (a7, (a8, (a9, (a10, (a11, (a22, (a12, ()))))))))))))))))))) (fun r0 =>
 .ite (decide (0 <= r0.1)) (
 .grd (decide (0 <= r0.1 /\ r0.1 < (↑(a20.length) : Int))) (
 .opt (a20[Int.toNat r0.1]?) (fun r1 =>
 gd a20.length (
 .opt ((delMeter_fn (r0.1, (wW .i64 (r0.1 + 1), (a20, ()))))) (fun r2 =>
 .opt ((buTake_fn (r1.rate, (r1.most, (r1.has, (r1.at', (a18, ((↑(a17.length) : Int), ())))))))) (fun r3 =>
 .grd (decide ((List.length r2.1 + List.length [TMeter.mk a12 r3.1 r3.2.1 r3.2.2.1 (y3 r3)]) * (40 : Nat) <= (140737488355328 : Nat) /\ List.length r2.1 + List.length [TMeter.mk a12 r3.1 r3.2.1 r3.2.2.1 (y3 r3)] <= (9223372036854775807 : Nat))) (
 gd a19.length (
 .grd (decide (List.length (r2.1 ++ [TMeter.mk a12 r3.1 r3.2.1 r3.2.2.1 (y3 r3)]) = List.length (r2.1 ++ [TMeter.mk a12 r3.1 r3.2.1 r3.2.2.1 (y3 r3)]))) (
 gd a21.length (
 gd a22.length (
 .ret (y4 r3, (a0, (a1, (a2, (a3, (a4, (a5, (a6, (a7, (a8, (a9, (a10, (a11, (a12, (a13, (a14, (a15, (a16, (a17, (a18, (a19, (r2.1 ++ [TMeter.mk a12 r3.1 r3.2.1 r3.2.2.1 (y3 r3)], (a21, (a22, ()))))))))))))))))))))))))))))))))))) (
 .ite (decide ((↑(a20.length) : Int) = 64)) (
 gd a20.length (
 .opt ((delMeter_fn (0, (1, (a20, ()))))) (fun r1 =>
 .opt ((buTake_fn (a4, (a5, (a5, (a18, (a18, ((↑(a17.length) : Int), ())))))))) (fun r2 =>
 .grd (decide ((List.length r1.1 + List.length [TMeter.mk a12 r2.1 r2.2.1 r2.2.2.1 (y3 r2)]) * (40 : Nat) <= (140737488355328 : Nat) /\ List.length r1.1 + List.length [TMeter.mk a12 r2.1 r2.2.1 r2.2.2.1 (y3 r2)] <= (9223372036854775807 : Nat))) (
 gd a19.length (
 .grd (decide (List.length (r1.1 ++ [TMeter.mk a12 r2.1 r2.2.1 r2.2.2.1 (y3 r2)]) = List.length (r1.1 ++ [TMeter.mk a12 r2.1 r2.2.1 r2.2.2.1 (y3 r2)]))) (
 gd a21.length (
 gd a22.length (
 .ret (y4 r2, (a0, (a1, (a2, (a3, (a4, (a5, (a6, (a7, (a8, (a9, (a10, (a11, (a12, (a13, (a14, (a15, (a16, (a17, (a18, (a19, (r1.1 ++ [TMeter.mk a12 r2.1 r2.2.1 r2.2.2.1 (y3 r2)], (a21, (a22, ()))))))))))))))))))))))))))))))))) (
 .opt ((buTake_fn (a4, (a5, (a5, (a18, (a18, ((↑(a17.length) : Int), ())))))))) (fun r1 =>
 .grd (decide ((a20.length + List.length [TMeter.mk a12 r1.1 r1.2.1 r1.2.2.1 (y3 r1)]) * (40 : Nat) <= (140737488355328 : Nat) /\ a20.length + List.length [TMeter.mk a12 r1.1 r1.2.1 r1.2.2.1 (y3 r1)] <= (9223372036854775807 : Nat))) (
 gd a19.length (
 .grd (decide (List.length (a20 ++ [TMeter.mk a12 r1.1 r1.2.1 r1.2.2.1 (y3 r1)]) = List.length (a20 ++ [TMeter.mk a12 r1.1 r1.2.1 r1.2.2.1 (y3 r1)]))) (
 gd a21.length (
 gd a22.length (
 .ret (y4 r1, (a0, (a1, (a2, (a3, (a4, (a5, (a6, (a7, (a8, (a9, (a10, (a11, (a12, (a13, (a14, (a15, (a16, (a17, (a18, (a19, (a20 ++ [TMeter.mk a12 r1.1 r1.2.1 r1.2.2.1 (y3 r1)], (a21, (a22, ())))))))))))))))))))))))))))))))))
noncomputable def gm67 : List (PF Go.Proofs.Tryz.prog) := gm66 ++ [GS.pf natOutO]
theorem wMeasuredO_eq (x : ty25_) : gsTr Tryz.prog cod gm67 [] 30 88 wMeasuredO_ap wMeasuredO_rp x = wMeasuredO_tree x := by kernel_rfl
def wMeasuredO_fn (x : ty25_) : Option ty26_ := (wMeasuredO_tree x).eval
def wMeasuredO : GS Tryz.prog := ⟨88, [1], wMeasuredO_ap, wMeasuredO_rp, wMeasuredO_fn, fun x r h ys m g he hg => gs_sound (cod := cod) (Γ := gm67) (Λs := []) (n := 30) ((congrArg Tr.eval (wMeasuredO_eq x)).trans h) he hg⟩
def wKnownO_ap : SP := ⟨24, [(0, .v (.one (.ptr 1000000 0))), (1, .v (.agg [.i .u32, .i .u32, .i .i64, .i .i64]))], [(1000000, .cells [.i .u32, .i .i64, .i .i64, .i .i64, .i .i64, .i .i64, .own 1000100, .b, .own 1000101, .own 1000102, .i .i64, .i .i64, .i .u64, .i .i64, .i .u64, .own 1000103, .i .u32, .i .u32, .i .i64, .i .i64, .i .i64, .s, .i .i64]), (1000100, .row 54 10 true true), (1000101, .row 59 19 true true), (1000102, .row 64 16 true true), (1000103, .row 67 17 true true)]⟩
def wKnownO_rp : SP := ⟨1, [(0, .v (.one (.b)))], [(1000000, .cells [.i .u32, .i .i64, .i .i64, .i .i64, .i .i64, .i .i64, .own 1000100, .b, .own 1000101, .own 1000102, .i .i64, .i .i64, .i .u64, .i .i64, .i .u64, .own 1000103, .i .u32, .i .u32, .i .i64, .i .i64, .i .i64, .s, .i .i64]), (1000100, .row 54 10 true true), (1000101, .row 59 19 true true), (1000102, .row 64 16 true true), (1000103, .row 67 17 true true)]⟩
abbrev y7 {a0 a1 a2 a3 a4 a5 a6 b c : Type} (x : a0 × a1 × a2 × a3 × a4 × a5 × a6 × b × c) : b := x.2.2.2.2.2.2.2.1
abbrev ty27_ : Type := (Int × (Int × (Int × (Int × (Int × (Int × (Int × (Int × (Int × (Int × (Bool × (Int × (Int × (Int × (Int × (Int × (Int × (Int × (Int × (Int × (Int × ((List UInt8) × (Int × ((List TRule) × ((List TMeter) × ((List TTalk) × ((List TMap) × Unit)))))))))))))))))))))))))))
def wKnownO_tree : ty27_ -> Tr ty26_ :=
 fun (a0, a1, a2, a3, a4, a5, a6, a7, a8, a9, a10, a11, a12, a13, a14, a15, a16, a17, a18, a19, a20, a21, a22, a23, a24, a25, a26, _) =>
 .opt ((trFind_fn (a25, (a0, (a1, (a2, (a3, (a22, ())))))))) (fun r0 =>
 gd a23.length (
 gd a24.length (
 gd a25.length (
 gd a26.length (
 .ret (y7 r0, (a4, (a5, (a6, (a7, (a8, (a9, (a10, (a11, (a12, (a13, (a14, (a15, (a16, (a17, (a18, (a19, (a20, (a21, (a22, (a23, (a24, (a25, (a26, ())))))))))))))))))))))))))))))
noncomputable def gm68 : List (PF Go.Proofs.Tryz.prog) := gm67 ++ [GS.pf wMeasuredO]
theorem wKnownO_eq (x : ty27_) : gsTr Tryz.prog cod gm68 [] 30 137 wKnownO_ap wKnownO_rp x = wKnownO_tree x := by kernel_rfl
def wKnownO_fn (x : ty27_) : Option ty26_ := (wKnownO_tree x).eval
def wKnownO : GS Tryz.prog := ⟨137, [1, 0], wKnownO_ap, wKnownO_rp, wKnownO_fn, fun x r h ys m g he hg => gs_sound (cod := cod) (Γ := gm68) (Λs := []) (n := 30) ((congrArg Tr.eval (wKnownO_eq x)).trans h) he hg⟩
def wTalkedM : PF Go.Proofs.Tryz.prog := ⟨139, [1, 0], fun _ _ => none, fun _ _ _ _ _ h _ => by cases h⟩
def wLeavesM : PF Go.Proofs.Tryz.prog := ⟨89, [1], fun _ _ => none, fun _ _ _ _ _ h _ => by cases h⟩
def wEntersM : PF Go.Proofs.Tryz.prog := ⟨90, [1], fun _ _ => none, fun _ _ _ _ _ h _ => by cases h⟩
def wGoesM : PF Go.Proofs.Tryz.prog := ⟨42, [1, 0, 0], fun _ _ => none, fun _ _ _ _ _ h _ => by cases h⟩
def hsHearO_ap : SP := ⟨46, [(0, .v (.agg [.i .u32, .i .i64, .i .i64, .i .i64, .i .i64, .i .i64, .st 10 false, .b, .st 19 false, .st 16 false, .i .i64, .i .i64, .i .u64, .i .i64, .i .u64, .st 17 false])), (1, .v (.one (.b))), (2, .v (.one (.s))), (3, .v (.one (.i .i64)))], []⟩
def hsHearO_rp : SP := ⟨1, [(0, .tup [.agg [.i .u32, .i .i64, .i .i64, .i .i64, .i .i64, .i .i64, .own 2000000, .b, .own 2000001, .own 2000002, .i .i64, .i .i64, .i .u64, .i .i64, .i .u64, .own 2000003], .one (.s), .one (.i .i64), .one (.i .i64)])], [(2000000, .row 54 10 true true), (2000001, .row 59 19 true true), (2000002, .row 64 16 true true), (2000003, .row 67 17 true true)]⟩
abbrev y8 {a0 a1 a2 a3 a4 a5 a6 a7 b c : Type} (x : a0 × a1 × a2 × a3 × a4 × a5 × a6 × a7 × b × c) : b := x.2.2.2.2.2.2.2.2.1
abbrev y9 {a0 a1 a2 a3 a4 a5 a6 a7 a8 b c : Type} (x : a0 × a1 × a2 × a3 × a4 × a5 × a6 × a7 × a8 × b × c) : b := x.2.2.2.2.2.2.2.2.2.1
abbrev y10 {a0 a1 a2 a3 a4 a5 a6 a7 a8 a9 b c : Type} (x : a0 × a1 × a2 × a3 × a4 × a5 × a6 × a7 × a8 × a9 × b × c) : b := x.2.2.2.2.2.2.2.2.2.2.1
abbrev y11 {a0 a1 a2 a3 a4 a5 a6 a7 a8 a9 a10 b c : Type} (x : a0 × a1 × a2 × a3 × a4 × a5 × a6 × a7 × a8 × a9 × a10 × b × c) : b := x.2.2.2.2.2.2.2.2.2.2.2.1
abbrev y12 {a0 a1 a2 a3 a4 a5 a6 a7 a8 a9 a10 a11 b c : Type} (x : a0 × a1 × a2 × a3 × a4 × a5 × a6 × a7 × a8 × a9 × a10 × a11 × b × c) : b := x.2.2.2.2.2.2.2.2.2.2.2.2.1
abbrev y13 {a0 a1 a2 a3 a4 a5 a6 a7 a8 a9 a10 a11 a12 b c : Type} (x : a0 × a1 × a2 × a3 × a4 × a5 × a6 × a7 × a8 × a9 × a10 × a11 × a12 × b × c) : b := x.2.2.2.2.2.2.2.2.2.2.2.2.2.1
abbrev y14 {a0 a1 a2 a3 a4 a5 a6 a7 a8 a9 a10 a11 a12 a13 b c : Type} (x : a0 × a1 × a2 × a3 × a4 × a5 × a6 × a7 × a8 × a9 × a10 × a11 × a12 × a13 × b × c) : b := x.2.2.2.2.2.2.2.2.2.2.2.2.2.2.1
abbrev y15 {a0 a1 a2 a3 a4 a5 a6 a7 a8 a9 a10 a11 a12 a13 a14 b c : Type} (x : a0 × a1 × a2 × a3 × a4 × a5 × a6 × a7 × a8 × a9 × a10 × a11 × a12 × a13 × a14 × b × c) : b := x.2.2.2.2.2.2.2.2.2.2.2.2.2.2.2.1
abbrev y16 {a0 a1 a2 a3 a4 a5 a6 a7 a8 a9 a10 a11 a12 a13 a14 a15 b c : Type} (x : a0 × a1 × a2 × a3 × a4 × a5 × a6 × a7 × a8 × a9 × a10 × a11 × a12 × a13 × a14 × a15 × b × c) : b := x.2.2.2.2.2.2.2.2.2.2.2.2.2.2.2.2.1
abbrev y17 {a0 a1 a2 a3 a4 a5 a6 a7 a8 a9 a10 a11 a12 a13 a14 a15 a16 b c : Type} (x : a0 × a1 × a2 × a3 × a4 × a5 × a6 × a7 × a8 × a9 × a10 × a11 × a12 × a13 × a14 × a15 × a16 × b × c) : b := x.2.2.2.2.2.2.2.2.2.2.2.2.2.2.2.2.2.1
abbrev y18 {a0 a1 a2 a3 a4 a5 a6 a7 a8 a9 a10 a11 a12 a13 a14 a15 a16 a17 b c : Type} (x : a0 × a1 × a2 × a3 × a4 × a5 × a6 × a7 × a8 × a9 × a10 × a11 × a12 × a13 × a14 × a15 × a16 × a17 × b × c) : b := x.2.2.2.2.2.2.2.2.2.2.2.2.2.2.2.2.2.2.1
abbrev y19 {a0 a1 a2 a3 a4 a5 a6 a7 a8 a9 a10 a11 a12 a13 a14 a15 a16 a17 a18 b c : Type} (x : a0 × a1 × a2 × a3 × a4 × a5 × a6 × a7 × a8 × a9 × a10 × a11 × a12 × a13 × a14 × a15 × a16 × a17 × a18 × b × c) : b := x.2.2.2.2.2.2.2.2.2.2.2.2.2.2.2.2.2.2.2.1
abbrev y20 {a0 a1 a2 a3 a4 a5 a6 a7 a8 a9 a10 a11 a12 a13 a14 a15 a16 a17 a18 a19 b c : Type} (x : a0 × a1 × a2 × a3 × a4 × a5 × a6 × a7 × a8 × a9 × a10 × a11 × a12 × a13 × a14 × a15 × a16 × a17 × a18 × a19 × b × c) : b := x.2.2.2.2.2.2.2.2.2.2.2.2.2.2.2.2.2.2.2.2.1
abbrev y21 {a0 a1 a2 a3 a4 a5 a6 a7 a8 a9 a10 a11 a12 a13 a14 a15 a16 a17 a18 a19 a20 b c : Type} (x : a0 × a1 × a2 × a3 × a4 × a5 × a6 × a7 × a8 × a9 × a10 × a11 × a12 × a13 × a14 × a15 × a16 × a17 × a18 × a19 × a20 × b × c) : b := x.2.2.2.2.2.2.2.2.2.2.2.2.2.2.2.2.2.2.2.2.2.1
abbrev y22 {a0 a1 a2 a3 a4 a5 a6 a7 a8 a9 a10 a11 a12 a13 a14 a15 a16 a17 a18 a19 a20 a21 b c : Type} (x : a0 × a1 × a2 × a3 × a4 × a5 × a6 × a7 × a8 × a9 × a10 × a11 × a12 × a13 × a14 × a15 × a16 × a17 × a18 × a19 × a20 × a21 × b × c) : b := x.2.2.2.2.2.2.2.2.2.2.2.2.2.2.2.2.2.2.2.2.2.2.1
abbrev y23 {a0 a1 a2 a3 a4 a5 a6 a7 a8 a9 a10 a11 a12 a13 a14 a15 a16 a17 a18 a19 a20 a21 a22 b c : Type} (x : a0 × a1 × a2 × a3 × a4 × a5 × a6 × a7 × a8 × a9 × a10 × a11 × a12 × a13 × a14 × a15 × a16 × a17 × a18 × a19 × a20 × a21 × a22 × b × c) : b := x.2.2.2.2.2.2.2.2.2.2.2.2.2.2.2.2.2.2.2.2.2.2.2.1
abbrev ty28_ : Type := (Int × (Int × (Int × (Int × (Int × (Int × (Bool × (Int × (Int × (Int × (Int × (Int × ((List UInt8) × (Int × (Int × ((List TRule) × ((List TMeter) × ((List TTalk) × ((List TMap) × Unit)))))))))))))))))))
def hsHearO_tree : ty23_ -> Tr ty28_ :=
 fun (a0, a1, a2, a3, a4, a5, a6, a7, a8, a9, a10, a11, a12, a13, a14, a15, a16, a17, a18, _) =>
 .grd (decide (((0 : Nat) + a6.length) * (80 : Nat) <= (140737488355328 : Nat) /\ (0 : Nat) + a6.length <= (9223372036854775807 : Nat))) (
 .grd (decide (((0 : Nat) + a8.length) * (40 : Nat) <= (140737488355328 : Nat) /\ (0 : Nat) + a8.length <= (9223372036854775807 : Nat))) (
 .grd (decide (((0 : Nat) + a9.length) * (48 : Nat) <= (140737488355328 : Nat) /\ (0 : Nat) + a9.length <= (9223372036854775807 : Nat))) (
 .grd (decide (((0 : Nat) + a15.length) * (40 : Nat) <= (140737488355328 : Nat) /\ (0 : Nat) + a15.length <= (9223372036854775807 : Nat))) (
 .opt ((hsCheck_fn (a0, (a1, (a2, (a3, (a4, (a5, (a6, (a7, (a8, (a9, (a10, (a11, (a12, (a13, (a14, (a15, ())))))))))))))))))) (fun r0 =>
 .ite (!decide (r0.1 = 0)) (
 gd a6.length (
 gd a8.length (
 gd a9.length (
 gd a15.length (
 .ret (a0, (a1, (a2, (a3, (a4, (a5, (a7, (a10, (a11, (a12, (a13, (a14, ([], (0, (r0.1, (a6, (a8, (a9, (a15, ())))))))))))))))))))))))) (
 .opt ((hsLast_fn (a0, (a1, (a2, (a3, (a4, (a5, (a6, (a7, (a8, (a9, (a10, (a11, (a12, (a13, (a14, (a15, ())))))))))))))))))) (fun r1 =>
 .ite (decide (a18 < r1.1)) (
 gd a6.length (
 gd a8.length (
 gd a9.length (
 gd a15.length (
 .ret (a0, (a1, (a2, (a3, (a4, (a5, (a7, (a10, (a11, (a12, (a13, (a14, ([], (0, (1, (a6, (a8, (a9, (a15, ())))))))))))))))))))))))) (
 .ite (decide (1099511627776 < a18)) (
 gd a6.length (
 gd a8.length (
 gd a9.length (
 gd a15.length (
 .ret (a0, (a1, (a2, (a3, (a4, (a5, (a7, (a10, (a11, (a12, (a13, (a14, ([], (0, (1, (a6, (a8, (a9, (a15, ())))))))))))))))))))))))) (
 .opt ((swEnds_fn (a17, ()))) (fun r2 =>
 .ite (!decide ((y5 r2) = 0)) (
 gd a6.length (
 gd a8.length (
 gd a9.length (
 gd a15.length (
 .ret (a0, (a1, (a2, (a3, (a4, (a5, (a7, (a10, (a11, (a12, (a13, (a14, ([], (1, (0, (a6, (a8, (a9, (a15, ())))))))))))))))))))))))) (
 .ite (!a16) (
 .ite (!decide (r2.2.1 = a0)) (
 gd a6.length (
 gd a8.length (
 gd a9.length (
 gd a15.length (
 .ret (a0, (a1, (a2, (a3, (a4, (a5, (a7, (a10, (a11, (a12, (a13, (a14, ([], (4, (0, (a6, (a8, (a9, (a15, ())))))))))))))))))))))))) (
 .opt ((ipHop_fn (a17, ()))) (fun r3 =>
 .ite (!decide (r3.2.1 = 0)) (
 gd a6.length (
 gd a8.length (
 gd a9.length (
 gd a15.length (
 .ret (a0, (a1, (a2, (a3, (a4, (a5, (a7, (a10, (a11, (a12, (a13, (a14, ([], (2, (0, (a6, (a8, (a9, (a15, ())))))))))))))))))))))))) (
 gd a6.length (
 gd a8.length (
 gd a9.length (
 gd a15.length (
 .opt ((wMeasuredO_fn (a0, (a1, (a2, (a3, (a4, (a5, (a7, (a10, (a11, (a12, (a13, (a14, (r2.1, (r2.2.1, (r2.2.2.1, (y3 r2, (y4 r2, (r3.1, (a18, (a6, (a8, (a9, (a15, ()))))))))))))))))))))))))) (fun r4 =>
 .ite (!r4.1) (
 gd (y20 r4).length (
 gd (y21 r4).length (
 gd (y22 r4).length (
 gd (y23 r4).length (
 .ret (r4.2.1, (r4.2.2.1, (y3 r4, (y4 r4, (y5 r4, (y6 r4, (y7 r4, (y8 r4, (y9 r4, (y10 r4, (y11 r4, (y12 r4, ([], (3, (0, (y20 r4, (y21 r4, (y22 r4, (y23 r4, ())))))))))))))))))))))))) (
 .ite (a16) (
 .ite (!decide ((y15 r4) = 6)) (
 .opt ((ruDecide_fn (y20 r4, (y13 r4, (y14 r4, (y15 r4, (y16 r4, (y17 r4, (y7 r4, ()))))))))) (fun r5 =>
 .ite (!r5.1) (
 gd (y20 r4).length (
 gd (y21 r4).length (
 gd (y22 r4).length (
 gd (y23 r4).length (
 .ret (r4.2.1, (r4.2.2.1, (y3 r4, (y4 r4, (y5 r4, (y6 r4, (y7 r4, (y8 r4, (y9 r4, (y10 r4, (y11 r4, (y12 r4, ([], (4, (0, (y20 r4, (y21 r4, (y22 r4, (y23 r4, ())))))))))))))))))))))))) (
 .ite (decide ((y15 r4) = 6)) (
 .opt ((ipRead_fn (y18 r4, ()))) (fun r6 =>
 .opt ((tcRead_fn (y10 r6, (y7 r6, (y8 r6, ()))))) (fun r7 =>
 .opt ((trHearO_fn (y22 r4, (y13 r4, (y14 r4, (y16 r4, (y17 r4, (y4 r7, (y19 r4, ()))))))))) (fun r8 =>
 .ite (decide (r8.2.1 = 0)) (
 .ite (decide (r8.2.1 = 0)) (
 .ite (!r8.1) (
 gd (y20 r4).length (
 gd (y21 r4).length (
 .grd (decide (List.length r8.2.2.fst = List.length r8.2.2.1)) (
 gd (y23 r4).length (
 .ret (r4.2.1, (r4.2.2.1, (y3 r4, (y4 r4, (y5 r4, (y6 r4, (y7 r4, (y8 r4, (y9 r4, (y10 r4, (y11 r4, (y12 r4, ([], (4, (0, (y20 r4, (y21 r4, (r8.2.2.1, (y23 r4, ())))))))))))))))))))))))) (
 .opt ((natOutO_fn (y8 r4, (y9 r4, (y10 r4, (y11 r4, (y12 r4, (y23 r4, (y15 r4, (y13 r4, (y16 r4, (y19 r4, ())))))))))))) (fun r9 =>
 .ite (!decide ((y6 r9) = 0)) (
 gd (y20 r4).length (
 gd (y21 r4).length (
 .grd (decide (List.length r8.2.2.fst = List.length r8.2.2.1)) (
 gd (y23 r4).length (
 .ret (r4.2.1, (r4.2.2.1, (y3 r4, (y4 r4, (y5 r4, (y6 r4, (y7 r4, (y8 r4, (y9 r4, (y10 r4, (y11 r4, (y12 r4, ([], (5, (0, (y20 r4, (y21 r4, (r8.2.2.1, (y23 r4, ())))))))))))))))))))))))) (
 .opt ((swFrom_fn (y18 r4, (r4.2.1, (y5 r9, ()))))) (fun r10 =>
 gd (y20 r4).length (
 gd (y21 r4).length (
 .grd (decide (List.length r8.2.2.fst = List.length r8.2.2.1)) (
 gd (y7 r9).length (
 .ret (r4.2.1, (r4.2.2.1, (y3 r4, (y4 r4, (y5 r4, (y6 r4, (y7 r4, (r9.1, (r9.2.1, (r9.2.2.1, (y3 r9, (y4 r9, (r10.1, (0, (0, (y20 r4, (y21 r4, (r8.2.2.1, (y7 r9, ())))))))))))))))))))))))))))) (
 .ite (true) (
 gd (y20 r4).length (
 gd (y21 r4).length (
 .grd (decide (List.length r8.2.2.fst = List.length r8.2.2.1)) (
 gd (y23 r4).length (
 .ret (r4.2.1, (r4.2.2.1, (y3 r4, (y4 r4, (y5 r4, (y6 r4, (y7 r4, (y8 r4, (y9 r4, (y10 r4, (y11 r4, (y12 r4, ([], (4, (0, (y20 r4, (y21 r4, (r8.2.2.1, (y23 r4, ())))))))))))))))))))))))) (
 .opt ((natOutO_fn (y8 r4, (y9 r4, (y10 r4, (y11 r4, (y12 r4, (y23 r4, (y15 r4, (y13 r4, (y16 r4, (y19 r4, ())))))))))))) (fun r9 =>
 .ite (!decide ((y6 r9) = 0)) (
 gd (y20 r4).length (
 gd (y21 r4).length (
 .grd (decide (List.length r8.2.2.fst = List.length r8.2.2.1)) (
 gd (y23 r4).length (
 .ret (r4.2.1, (r4.2.2.1, (y3 r4, (y4 r4, (y5 r4, (y6 r4, (y7 r4, (y8 r4, (y9 r4, (y10 r4, (y11 r4, (y12 r4, ([], (5, (0, (y20 r4, (y21 r4, (r8.2.2.1, (y23 r4, ())))))))))))))))))))))))) (
 .opt ((swFrom_fn (y18 r4, (r4.2.1, (y5 r9, ()))))) (fun r10 =>
 gd (y20 r4).length (
 gd (y21 r4).length (
 .grd (decide (List.length r8.2.2.fst = List.length r8.2.2.1)) (
 gd (y7 r9).length (
 .ret (r4.2.1, (r4.2.2.1, (y3 r4, (y4 r4, (y5 r4, (y6 r4, (y7 r4, (r9.1, (r9.2.1, (r9.2.2.1, (y3 r9, (y4 r9, (r10.1, (0, (0, (y20 r4, (y21 r4, (r8.2.2.1, (y7 r9, ()))))))))))))))))))))))))))))) (
 .ite (decide (r8.2.1 = 0)) (
 .ite (!r8.1) (
 gd (y20 r4).length (
 gd (y21 r4).length (
 gd (y22 r4).length (
 gd (y23 r4).length (
 .ret (r4.2.1, (r4.2.2.1, (y3 r4, (y4 r4, (y5 r4, (y6 r4, (y7 r4, (y8 r4, (y9 r4, (y10 r4, (y11 r4, (y12 r4, ([], (4, (0, (y20 r4, (y21 r4, (y22 r4, (y23 r4, ())))))))))))))))))))))))) (
 .opt ((natOutO_fn (y8 r4, (y9 r4, (y10 r4, (y11 r4, (y12 r4, (y23 r4, (y15 r4, (y13 r4, (y16 r4, (y19 r4, ())))))))))))) (fun r9 =>
 .ite (!decide ((y6 r9) = 0)) (
 gd (y20 r4).length (
 gd (y21 r4).length (
 gd (y22 r4).length (
 gd (y23 r4).length (
 .ret (r4.2.1, (r4.2.2.1, (y3 r4, (y4 r4, (y5 r4, (y6 r4, (y7 r4, (y8 r4, (y9 r4, (y10 r4, (y11 r4, (y12 r4, ([], (5, (0, (y20 r4, (y21 r4, (y22 r4, (y23 r4, ())))))))))))))))))))))))) (
 .opt ((swFrom_fn (y18 r4, (r4.2.1, (y5 r9, ()))))) (fun r10 =>
 gd (y20 r4).length (
 gd (y21 r4).length (
 gd (y22 r4).length (
 gd (y7 r9).length (
 .ret (r4.2.1, (r4.2.2.1, (y3 r4, (y4 r4, (y5 r4, (y6 r4, (y7 r4, (r9.1, (r9.2.1, (r9.2.2.1, (y3 r9, (y4 r9, (r10.1, (0, (0, (y20 r4, (y21 r4, (y22 r4, (y7 r9, ())))))))))))))))))))))))))))) (
 .ite (true) (
 gd (y20 r4).length (
 gd (y21 r4).length (
 gd (y22 r4).length (
 gd (y23 r4).length (
 .ret (r4.2.1, (r4.2.2.1, (y3 r4, (y4 r4, (y5 r4, (y6 r4, (y7 r4, (y8 r4, (y9 r4, (y10 r4, (y11 r4, (y12 r4, ([], (4, (0, (y20 r4, (y21 r4, (y22 r4, (y23 r4, ())))))))))))))))))))))))) (
 .opt ((natOutO_fn (y8 r4, (y9 r4, (y10 r4, (y11 r4, (y12 r4, (y23 r4, (y15 r4, (y13 r4, (y16 r4, (y19 r4, ())))))))))))) (fun r9 =>
 .ite (!decide ((y6 r9) = 0)) (
 gd (y20 r4).length (
 gd (y21 r4).length (
 gd (y22 r4).length (
 gd (y23 r4).length (
 .ret (r4.2.1, (r4.2.2.1, (y3 r4, (y4 r4, (y5 r4, (y6 r4, (y7 r4, (y8 r4, (y9 r4, (y10 r4, (y11 r4, (y12 r4, ([], (5, (0, (y20 r4, (y21 r4, (y22 r4, (y23 r4, ())))))))))))))))))))))))) (
 .opt ((swFrom_fn (y18 r4, (r4.2.1, (y5 r9, ()))))) (fun r10 =>
 gd (y20 r4).length (
 gd (y21 r4).length (
 gd (y22 r4).length (
 gd (y7 r9).length (
 .ret (r4.2.1, (r4.2.2.1, (y3 r4, (y4 r4, (y5 r4, (y6 r4, (y7 r4, (r9.1, (r9.2.1, (r9.2.2.1, (y3 r9, (y4 r9, (r10.1, (0, (0, (y20 r4, (y21 r4, (y22 r4, (y7 r9, ()))))))))))))))))))))))))))))))))) (
 .opt ((natOutO_fn (y8 r4, (y9 r4, (y10 r4, (y11 r4, (y12 r4, (y23 r4, (y15 r4, (y13 r4, (y16 r4, (y19 r4, ())))))))))))) (fun r6 =>
 .ite (!decide ((y6 r6) = 0)) (
 gd (y20 r4).length (
 gd (y21 r4).length (
 gd (y22 r4).length (
 gd (y23 r4).length (
 .ret (r4.2.1, (r4.2.2.1, (y3 r4, (y4 r4, (y5 r4, (y6 r4, (y7 r4, (y8 r4, (y9 r4, (y10 r4, (y11 r4, (y12 r4, ([], (5, (0, (y20 r4, (y21 r4, (y22 r4, (y23 r4, ())))))))))))))))))))))))) (
 .opt ((swFrom_fn (y18 r4, (r4.2.1, (y5 r6, ()))))) (fun r7 =>
 gd (y20 r4).length (
 gd (y21 r4).length (
 gd (y22 r4).length (
 gd (y7 r6).length (
 .ret (r4.2.1, (r4.2.2.1, (y3 r4, (y4 r4, (y5 r4, (y6 r4, (y7 r4, (r6.1, (r6.2.1, (r6.2.2.1, (y3 r6, (y4 r6, (r7.1, (0, (0, (y20 r4, (y21 r4, (y22 r4, (y7 r6, ())))))))))))))))))))))))))))))) (
 gd (y20 r4).length (
 gd (y21 r4).length (
 gd (y22 r4).length (
 gd (y23 r4).length (
 .opt ((wKnownO_fn (y13 r4, (y14 r4, (y16 r4, (y17 r4, (r4.2.1, (r4.2.2.1, (y3 r4, (y4 r4, (y5 r4, (y6 r4, (y7 r4, (y8 r4, (y9 r4, (y10 r4, (y11 r4, (y12 r4, (y13 r4, (y14 r4, (y15 r4, (y16 r4, (y17 r4, (y18 r4, (y19 r4, (y20 r4, (y21 r4, (y22 r4, (y23 r4, ()))))))))))))))))))))))))))))) (fun r5 =>
 .ite (!r5.1) (
 .opt ((ruDecide_fn (y20 r5, (y13 r4, (y14 r4, (y15 r4, (y16 r4, (y17 r4, (y7 r5, ()))))))))) (fun r6 =>
 .ite (!r6.1) (
 gd (y20 r5).length (
 gd (y21 r5).length (
 gd (y22 r5).length (
 gd (y23 r5).length (
 .ret (r5.2.1, (r5.2.2.1, (y3 r5, (y4 r5, (y5 r5, (y6 r5, (y7 r5, (y8 r5, (y9 r5, (y10 r5, (y11 r5, (y12 r5, ([], (4, (0, (y20 r5, (y21 r5, (y22 r5, (y23 r5, ())))))))))))))))))))))))) (
 .ite (decide ((y15 r4) = 6)) (
 .opt ((ipRead_fn (y18 r5, ()))) (fun r7 =>
 .opt ((tcRead_fn (y10 r7, (y7 r7, (y8 r7, ()))))) (fun r8 =>
 .opt ((trHearO_fn (y22 r5, (y13 r4, (y14 r4, (y16 r4, (y17 r4, (y4 r8, (y19 r5, ()))))))))) (fun r9 =>
 .ite (decide (r9.2.1 = 0)) (
 .ite (decide (r9.2.1 = 0)) (
 .ite (!r9.1) (
 gd (y20 r5).length (
 gd (y21 r5).length (
 .grd (decide (List.length r9.2.2.fst = List.length r9.2.2.1)) (
 gd (y23 r5).length (
 .ret (r5.2.1, (r5.2.2.1, (y3 r5, (y4 r5, (y5 r5, (y6 r5, (y7 r5, (y8 r5, (y9 r5, (y10 r5, (y11 r5, (y12 r5, ([], (4, (0, (y20 r5, (y21 r5, (r9.2.2.1, (y23 r5, ())))))))))))))))))))))))) (
 .opt ((natOutO_fn (y8 r5, (y9 r5, (y10 r5, (y11 r5, (y12 r5, (y23 r5, (y15 r4, (y13 r4, (y16 r4, (y19 r5, ())))))))))))) (fun r10 =>
 .ite (!decide ((y6 r10) = 0)) (
 gd (y20 r5).length (
 gd (y21 r5).length (
 .grd (decide (List.length r9.2.2.fst = List.length r9.2.2.1)) (
 gd (y23 r5).length (
 .ret (r5.2.1, (r5.2.2.1, (y3 r5, (y4 r5, (y5 r5, (y6 r5, (y7 r5, (y8 r5, (y9 r5, (y10 r5, (y11 r5, (y12 r5, ([], (5, (0, (y20 r5, (y21 r5, (r9.2.2.1, (y23 r5, ())))))))))))))))))))))))) (
 .opt ((swFrom_fn (y18 r5, (r5.2.1, (y5 r10, ()))))) (fun r11 =>
 gd (y20 r5).length (
 gd (y21 r5).length (
 .grd (decide (List.length r9.2.2.fst = List.length r9.2.2.1)) (
 gd (y7 r10).length (
 .ret (r5.2.1, (r5.2.2.1, (y3 r5, (y4 r5, (y5 r5, (y6 r5, (y7 r5, (r10.1, (r10.2.1, (r10.2.2.1, (y3 r10, (y4 r10, (r11.1, (0, (0, (y20 r5, (y21 r5, (r9.2.2.1, (y7 r10, ())))))))))))))))))))))))))))) (
 .ite (true) (
 gd (y20 r5).length (
 gd (y21 r5).length (
 .grd (decide (List.length r9.2.2.fst = List.length r9.2.2.1)) (
 gd (y23 r5).length (
 .ret (r5.2.1, (r5.2.2.1, (y3 r5, (y4 r5, (y5 r5, (y6 r5, (y7 r5, (y8 r5, (y9 r5, (y10 r5, (y11 r5, (y12 r5, ([], (4, (0, (y20 r5, (y21 r5, (r9.2.2.1, (y23 r5, ())))))))))))))))))))))))) (
 .opt ((natOutO_fn (y8 r5, (y9 r5, (y10 r5, (y11 r5, (y12 r5, (y23 r5, (y15 r4, (y13 r4, (y16 r4, (y19 r5, ())))))))))))) (fun r10 =>
 .ite (!decide ((y6 r10) = 0)) (
 gd (y20 r5).length (
 gd (y21 r5).length (
 .grd (decide (List.length r9.2.2.fst = List.length r9.2.2.1)) (
 gd (y23 r5).length (
 .ret (r5.2.1, (r5.2.2.1, (y3 r5, (y4 r5, (y5 r5, (y6 r5, (y7 r5, (y8 r5, (y9 r5, (y10 r5, (y11 r5, (y12 r5, ([], (5, (0, (y20 r5, (y21 r5, (r9.2.2.1, (y23 r5, ())))))))))))))))))))))))) (
 .opt ((swFrom_fn (y18 r5, (r5.2.1, (y5 r10, ()))))) (fun r11 =>
 gd (y20 r5).length (
 gd (y21 r5).length (
 .grd (decide (List.length r9.2.2.fst = List.length r9.2.2.1)) (
 gd (y7 r10).length (
 .ret (r5.2.1, (r5.2.2.1, (y3 r5, (y4 r5, (y5 r5, (y6 r5, (y7 r5, (r10.1, (r10.2.1, (r10.2.2.1, (y3 r10, (y4 r10, (r11.1, (0, (0, (y20 r5, (y21 r5, (r9.2.2.1, (y7 r10, ()))))))))))))))))))))))))))))) (
 .ite (decide (r9.2.1 = 0)) (
 .ite (!r9.1) (
 gd (y20 r5).length (
 gd (y21 r5).length (
 gd (y22 r5).length (
 gd (y23 r5).length (
 .ret (r5.2.1, (r5.2.2.1, (y3 r5, (y4 r5, (y5 r5, (y6 r5, (y7 r5, (y8 r5, (y9 r5, (y10 r5, (y11 r5, (y12 r5, ([], (4, (0, (y20 r5, (y21 r5, (y22 r5, (y23 r5, ())))))))))))))))))))))))) (
 .opt ((natOutO_fn (y8 r5, (y9 r5, (y10 r5, (y11 r5, (y12 r5, (y23 r5, (y15 r4, (y13 r4, (y16 r4, (y19 r5, ())))))))))))) (fun r10 =>
 .ite (!decide ((y6 r10) = 0)) (
 gd (y20 r5).length (
 gd (y21 r5).length (
 gd (y22 r5).length (
 gd (y23 r5).length (
 .ret (r5.2.1, (r5.2.2.1, (y3 r5, (y4 r5, (y5 r5, (y6 r5, (y7 r5, (y8 r5, (y9 r5, (y10 r5, (y11 r5, (y12 r5, ([], (5, (0, (y20 r5, (y21 r5, (y22 r5, (y23 r5, ())))))))))))))))))))))))) (
 .opt ((swFrom_fn (y18 r5, (r5.2.1, (y5 r10, ()))))) (fun r11 =>
 gd (y20 r5).length (
 gd (y21 r5).length (
 gd (y22 r5).length (
 gd (y7 r10).length (
 .ret (r5.2.1, (r5.2.2.1, (y3 r5, (y4 r5, (y5 r5, (y6 r5, (y7 r5, (r10.1, (r10.2.1, (r10.2.2.1, (y3 r10, (y4 r10, (r11.1, (0, (0, (y20 r5, (y21 r5, (y22 r5, (y7 r10, ())))))))))))))))))))))))))))) (
 .ite (true) (
 gd (y20 r5).length (
 gd (y21 r5).length (
 gd (y22 r5).length (
 gd (y23 r5).length (
 .ret (r5.2.1, (r5.2.2.1, (y3 r5, (y4 r5, (y5 r5, (y6 r5, (y7 r5, (y8 r5, (y9 r5, (y10 r5, (y11 r5, (y12 r5, ([], (4, (0, (y20 r5, (y21 r5, (y22 r5, (y23 r5, ())))))))))))))))))))))))) (
 .opt ((natOutO_fn (y8 r5, (y9 r5, (y10 r5, (y11 r5, (y12 r5, (y23 r5, (y15 r4, (y13 r4, (y16 r4, (y19 r5, ())))))))))))) (fun r10 =>
 .ite (!decide ((y6 r10) = 0)) (
 gd (y20 r5).length (
 gd (y21 r5).length (
 gd (y22 r5).length (
 gd (y23 r5).length (
 .ret (r5.2.1, (r5.2.2.1, (y3 r5, (y4 r5, (y5 r5, (y6 r5, (y7 r5, (y8 r5, (y9 r5, (y10 r5, (y11 r5, (y12 r5, ([], (5, (0, (y20 r5, (y21 r5, (y22 r5, (y23 r5, ())))))))))))))))))))))))) (
 .opt ((swFrom_fn (y18 r5, (r5.2.1, (y5 r10, ()))))) (fun r11 =>
 gd (y20 r5).length (
 gd (y21 r5).length (
 gd (y22 r5).length (
 gd (y7 r10).length (
 .ret (r5.2.1, (r5.2.2.1, (y3 r5, (y4 r5, (y5 r5, (y6 r5, (y7 r5, (r10.1, (r10.2.1, (r10.2.2.1, (y3 r10, (y4 r10, (r11.1, (0, (0, (y20 r5, (y21 r5, (y22 r5, (y7 r10, ()))))))))))))))))))))))))))))))))) (
 .opt ((natOutO_fn (y8 r5, (y9 r5, (y10 r5, (y11 r5, (y12 r5, (y23 r5, (y15 r4, (y13 r4, (y16 r4, (y19 r5, ())))))))))))) (fun r7 =>
 .ite (!decide ((y6 r7) = 0)) (
 gd (y20 r5).length (
 gd (y21 r5).length (
 gd (y22 r5).length (
 gd (y23 r5).length (
 .ret (r5.2.1, (r5.2.2.1, (y3 r5, (y4 r5, (y5 r5, (y6 r5, (y7 r5, (y8 r5, (y9 r5, (y10 r5, (y11 r5, (y12 r5, ([], (5, (0, (y20 r5, (y21 r5, (y22 r5, (y23 r5, ())))))))))))))))))))))))) (
 .opt ((swFrom_fn (y18 r5, (r5.2.1, (y5 r7, ()))))) (fun r8 =>
 gd (y20 r5).length (
 gd (y21 r5).length (
 gd (y22 r5).length (
 gd (y7 r7).length (
 .ret (r5.2.1, (r5.2.2.1, (y3 r5, (y4 r5, (y5 r5, (y6 r5, (y7 r5, (r7.1, (r7.2.1, (r7.2.2.1, (y3 r7, (y4 r7, (r8.1, (0, (0, (y20 r5, (y21 r5, (y22 r5, (y7 r7, ())))))))))))))))))))))))))))))) (
 .ite (decide ((y15 r4) = 6)) (
 .opt ((ipRead_fn (y18 r5, ()))) (fun r6 =>
 .opt ((tcRead_fn (y10 r6, (y7 r6, (y8 r6, ()))))) (fun r7 =>
 .opt ((trHearO_fn (y22 r5, (y13 r4, (y14 r4, (y16 r4, (y17 r4, (y4 r7, (y19 r5, ()))))))))) (fun r8 =>
 .ite (decide (r8.2.1 = 0)) (
 .ite (decide (r8.2.1 = 0)) (
 .ite (!r8.1) (
 gd (y20 r5).length (
 gd (y21 r5).length (
 .grd (decide (List.length r8.2.2.fst = List.length r8.2.2.1)) (
 gd (y23 r5).length (
 .ret (r5.2.1, (r5.2.2.1, (y3 r5, (y4 r5, (y5 r5, (y6 r5, (y7 r5, (y8 r5, (y9 r5, (y10 r5, (y11 r5, (y12 r5, ([], (4, (0, (y20 r5, (y21 r5, (r8.2.2.1, (y23 r5, ())))))))))))))))))))))))) (
 .opt ((natOutO_fn (y8 r5, (y9 r5, (y10 r5, (y11 r5, (y12 r5, (y23 r5, (y15 r4, (y13 r4, (y16 r4, (y19 r5, ())))))))))))) (fun r9 =>
 .ite (!decide ((y6 r9) = 0)) (
 gd (y20 r5).length (
 gd (y21 r5).length (
 .grd (decide (List.length r8.2.2.fst = List.length r8.2.2.1)) (
 gd (y23 r5).length (
 .ret (r5.2.1, (r5.2.2.1, (y3 r5, (y4 r5, (y5 r5, (y6 r5, (y7 r5, (y8 r5, (y9 r5, (y10 r5, (y11 r5, (y12 r5, ([], (5, (0, (y20 r5, (y21 r5, (r8.2.2.1, (y23 r5, ())))))))))))))))))))))))) (
 .opt ((swFrom_fn (y18 r5, (r5.2.1, (y5 r9, ()))))) (fun r10 =>
 gd (y20 r5).length (
 gd (y21 r5).length (
 .grd (decide (List.length r8.2.2.fst = List.length r8.2.2.1)) (
 gd (y7 r9).length (
 .ret (r5.2.1, (r5.2.2.1, (y3 r5, (y4 r5, (y5 r5, (y6 r5, (y7 r5, (r9.1, (r9.2.1, (r9.2.2.1, (y3 r9, (y4 r9, (r10.1, (0, (0, (y20 r5, (y21 r5, (r8.2.2.1, (y7 r9, ())))))))))))))))))))))))))))) (
 .ite (true) (
 gd (y20 r5).length (
 gd (y21 r5).length (
 .grd (decide (List.length r8.2.2.fst = List.length r8.2.2.1)) (
 gd (y23 r5).length (
 .ret (r5.2.1, (r5.2.2.1, (y3 r5, (y4 r5, (y5 r5, (y6 r5, (y7 r5, (y8 r5, (y9 r5, (y10 r5, (y11 r5, (y12 r5, ([], (4, (0, (y20 r5, (y21 r5, (r8.2.2.1, (y23 r5, ())))))))))))))))))))))))) (
 .opt ((natOutO_fn (y8 r5, (y9 r5, (y10 r5, (y11 r5, (y12 r5, (y23 r5, (y15 r4, (y13 r4, (y16 r4, (y19 r5, ())))))))))))) (fun r9 =>
 .ite (!decide ((y6 r9) = 0)) (
 gd (y20 r5).length (
 gd (y21 r5).length (
 .grd (decide (List.length r8.2.2.fst = List.length r8.2.2.1)) (
 gd (y23 r5).length (
 .ret (r5.2.1, (r5.2.2.1, (y3 r5, (y4 r5, (y5 r5, (y6 r5, (y7 r5, (y8 r5, (y9 r5, (y10 r5, (y11 r5, (y12 r5, ([], (5, (0, (y20 r5, (y21 r5, (r8.2.2.1, (y23 r5, ())))))))))))))))))))))))) (
 .opt ((swFrom_fn (y18 r5, (r5.2.1, (y5 r9, ()))))) (fun r10 =>
 gd (y20 r5).length (
 gd (y21 r5).length (
 .grd (decide (List.length r8.2.2.fst = List.length r8.2.2.1)) (
 gd (y7 r9).length (
 .ret (r5.2.1, (r5.2.2.1, (y3 r5, (y4 r5, (y5 r5, (y6 r5, (y7 r5, (r9.1, (r9.2.1, (r9.2.2.1, (y3 r9, (y4 r9, (r10.1, (0, (0, (y20 r5, (y21 r5, (r8.2.2.1, (y7 r9, ()))))))))))))))))))))))))))))) (
 .ite (decide (r8.2.1 = 0)) (
 .ite (!r8.1) (
 gd (y20 r5).length (
 gd (y21 r5).length (
 gd (y22 r5).length (
 gd (y23 r5).length (
 .ret (r5.2.1, (r5.2.2.1, (y3 r5, (y4 r5, (y5 r5, (y6 r5, (y7 r5, (y8 r5, (y9 r5, (y10 r5, (y11 r5, (y12 r5, ([], (4, (0, (y20 r5, (y21 r5, (y22 r5, (y23 r5, ())))))))))))))))))))))))) (
 .opt ((natOutO_fn (y8 r5, (y9 r5, (y10 r5, (y11 r5, (y12 r5, (y23 r5, (y15 r4, (y13 r4, (y16 r4, (y19 r5, ())))))))))))) (fun r9 =>
 .ite (!decide ((y6 r9) = 0)) (
 gd (y20 r5).length (
 gd (y21 r5).length (
 gd (y22 r5).length (
 gd (y23 r5).length (
 .ret (r5.2.1, (r5.2.2.1, (y3 r5, (y4 r5, (y5 r5, (y6 r5, (y7 r5, (y8 r5, (y9 r5, (y10 r5, (y11 r5, (y12 r5, ([], (5, (0, (y20 r5, (y21 r5, (y22 r5, (y23 r5, ())))))))))))))))))))))))) (
 .opt ((swFrom_fn (y18 r5, (r5.2.1, (y5 r9, ()))))) (fun r10 =>
 gd (y20 r5).length (
 gd (y21 r5).length (
 gd (y22 r5).length (
 gd (y7 r9).length (
 .ret (r5.2.1, (r5.2.2.1, (y3 r5, (y4 r5, (y5 r5, (y6 r5, (y7 r5, (r9.1, (r9.2.1, (r9.2.2.1, (y3 r9, (y4 r9, (r10.1, (0, (0, (y20 r5, (y21 r5, (y22 r5, (y7 r9, ())))))))))))))))))))))))))))) (
 .ite (true) (
 gd (y20 r5).length (
 gd (y21 r5).length (
 gd (y22 r5).length (
 gd (y23 r5).length (
 .ret (r5.2.1, (r5.2.2.1, (y3 r5, (y4 r5, (y5 r5, (y6 r5, (y7 r5, (y8 r5, (y9 r5, (y10 r5, (y11 r5, (y12 r5, ([], (4, (0, (y20 r5, (y21 r5, (y22 r5, (y23 r5, ())))))))))))))))))))))))) (
 .opt ((natOutO_fn (y8 r5, (y9 r5, (y10 r5, (y11 r5, (y12 r5, (y23 r5, (y15 r4, (y13 r4, (y16 r4, (y19 r5, ())))))))))))) (fun r9 =>
 .ite (!decide ((y6 r9) = 0)) (
 gd (y20 r5).length (
 gd (y21 r5).length (
 gd (y22 r5).length (
 gd (y23 r5).length (
 .ret (r5.2.1, (r5.2.2.1, (y3 r5, (y4 r5, (y5 r5, (y6 r5, (y7 r5, (y8 r5, (y9 r5, (y10 r5, (y11 r5, (y12 r5, ([], (5, (0, (y20 r5, (y21 r5, (y22 r5, (y23 r5, ())))))))))))))))))))))))) (
 .opt ((swFrom_fn (y18 r5, (r5.2.1, (y5 r9, ()))))) (fun r10 =>
 gd (y20 r5).length (
 gd (y21 r5).length (
 gd (y22 r5).length (
 gd (y7 r9).length (
 .ret (r5.2.1, (r5.2.2.1, (y3 r5, (y4 r5, (y5 r5, (y6 r5, (y7 r5, (r9.1, (r9.2.1, (r9.2.2.1, (y3 r9, (y4 r9, (r10.1, (0, (0, (y20 r5, (y21 r5, (y22 r5, (y7 r9, ()))))))))))))))))))))))))))))))))) (
 .opt ((natOutO_fn (y8 r5, (y9 r5, (y10 r5, (y11 r5, (y12 r5, (y23 r5, (y15 r4, (y13 r4, (y16 r4, (y19 r5, ())))))))))))) (fun r6 =>
 .ite (!decide ((y6 r6) = 0)) (
 gd (y20 r5).length (
 gd (y21 r5).length (
 gd (y22 r5).length (
 gd (y23 r5).length (
 .ret (r5.2.1, (r5.2.2.1, (y3 r5, (y4 r5, (y5 r5, (y6 r5, (y7 r5, (y8 r5, (y9 r5, (y10 r5, (y11 r5, (y12 r5, ([], (5, (0, (y20 r5, (y21 r5, (y22 r5, (y23 r5, ())))))))))))))))))))))))) (
 .opt ((swFrom_fn (y18 r5, (r5.2.1, (y5 r6, ()))))) (fun r7 =>
 gd (y20 r5).length (
 gd (y21 r5).length (
 gd (y22 r5).length (
 gd (y7 r6).length (
 .ret (r5.2.1, (r5.2.2.1, (y3 r5, (y4 r5, (y5 r5, (y6 r5, (y7 r5, (r6.1, (r6.2.1, (r6.2.2.1, (y3 r6, (y4 r6, (r7.1, (0, (0, (y20 r5, (y21 r5, (y22 r5, (y7 r6, ()))))))))))))))))))))))))))))))))))) (
 .opt ((natIn_fn (y8 r4, (y9 r4, (y10 r4, (y11 r4, (y12 r4, (y23 r4, (y15 r4, (y17 r4, (y19 r4, ()))))))))))) (fun r5 =>
 .ite (!decide (r5.2.2.1 = 0)) (
 gd (y20 r4).length (
 gd (y21 r4).length (
 gd (y22 r4).length (
 gd (y23 r4).length (
 .ret (r4.2.1, (r4.2.2.1, (y3 r4, (y4 r4, (y5 r4, (y6 r4, (y7 r4, (y8 r4, (y9 r4, (y10 r4, (y11 r4, (y12 r4, ([], (4, (0, (y20 r4, (y21 r4, (y22 r4, (y23 r4, ())))))))))))))))))))))))) (
 .ite (decide ((y15 r4) = 6)) (
 gd (y20 r4).length (
 gd (y21 r4).length (
 gd (y22 r4).length (
 gd (y23 r4).length (
 .opt ((wKnownO_fn (y13 r4, (r5.1, (y16 r4, (r5.2.1, (r4.2.1, (r4.2.2.1, (y3 r4, (y4 r4, (y5 r4, (y6 r4, (y7 r4, (y8 r4, (y9 r4, (y10 r4, (y11 r4, (y12 r4, (y13 r4, (y14 r4, (y15 r4, (y16 r4, (y17 r4, (y18 r4, (y19 r4, (y20 r4, (y21 r4, (y22 r4, (y23 r4, ()))))))))))))))))))))))))))))) (fun r6 =>
 .ite (!r6.1) (
 gd (y20 r6).length (
 gd (y21 r6).length (
 gd (y22 r6).length (
 gd (y23 r6).length (
 .ret (r6.2.1, (r6.2.2.1, (y3 r6, (y4 r6, (y5 r6, (y6 r6, (y7 r6, (y8 r6, (y9 r6, (y10 r6, (y11 r6, (y12 r6, ([], (4, (0, (y20 r6, (y21 r6, (y22 r6, (y23 r6, ())))))))))))))))))))))))) (
 .opt ((ipRead_fn (y18 r6, ()))) (fun r7 =>
 .opt ((tcRead_fn (y10 r7, (y7 r7, (y8 r7, ()))))) (fun r8 =>
 .opt ((trHearO_fn (y22 r6, (y13 r4, (r5.1, (y16 r4, (r5.2.1, (y4 r8, (y19 r6, ()))))))))) (fun r9 =>
 .ite (decide (r9.2.1 = 0)) (
 .ite (decide (r9.2.1 = 0)) (
 .ite (!r9.1) (
 gd (y20 r6).length (
 gd (y21 r6).length (
 .grd (decide (List.length r9.2.2.fst = List.length r9.2.2.1)) (
 gd (y23 r6).length (
 .ret (r6.2.1, (r6.2.2.1, (y3 r6, (y4 r6, (y5 r6, (y6 r6, (y7 r6, (y8 r6, (y9 r6, (y10 r6, (y11 r6, (y12 r6, ([], (4, (0, (y20 r6, (y21 r6, (r9.2.2.1, (y23 r6, ())))))))))))))))))))))))) (
 .opt ((swTo_fn (y18 r6, (r5.1, (r5.2.1, ()))))) (fun r10 =>
 gd (y20 r6).length (
 gd (y21 r6).length (
 .grd (decide (List.length r9.2.2.fst = List.length r9.2.2.1)) (
 gd (y23 r6).length (
 .ret (r6.2.1, (r6.2.2.1, (y3 r6, (y4 r6, (y5 r6, (y6 r6, (y7 r6, (y8 r6, (y9 r6, (y10 r6, (y11 r6, (y12 r6, (r10.1, (0, (0, (y20 r6, (y21 r6, (r9.2.2.1, (y23 r6, ())))))))))))))))))))))))))) (
 .ite (true) (
 gd (y20 r6).length (
 gd (y21 r6).length (
 .grd (decide (List.length r9.2.2.fst = List.length r9.2.2.1)) (
 gd (y23 r6).length (
 .ret (r6.2.1, (r6.2.2.1, (y3 r6, (y4 r6, (y5 r6, (y6 r6, (y7 r6, (y8 r6, (y9 r6, (y10 r6, (y11 r6, (y12 r6, ([], (4, (0, (y20 r6, (y21 r6, (r9.2.2.1, (y23 r6, ())))))))))))))))))))))))) (
 .opt ((swTo_fn (y18 r6, (r5.1, (r5.2.1, ()))))) (fun r10 =>
 gd (y20 r6).length (
 gd (y21 r6).length (
 .grd (decide (List.length r9.2.2.fst = List.length r9.2.2.1)) (
 gd (y23 r6).length (
 .ret (r6.2.1, (r6.2.2.1, (y3 r6, (y4 r6, (y5 r6, (y6 r6, (y7 r6, (y8 r6, (y9 r6, (y10 r6, (y11 r6, (y12 r6, (r10.1, (0, (0, (y20 r6, (y21 r6, (r9.2.2.1, (y23 r6, ()))))))))))))))))))))))))))) (
 .ite (decide (r9.2.1 = 0)) (
 .ite (!r9.1) (
 gd (y20 r6).length (
 gd (y21 r6).length (
 gd (y22 r6).length (
 gd (y23 r6).length (
 .ret (r6.2.1, (r6.2.2.1, (y3 r6, (y4 r6, (y5 r6, (y6 r6, (y7 r6, (y8 r6, (y9 r6, (y10 r6, (y11 r6, (y12 r6, ([], (4, (0, (y20 r6, (y21 r6, (y22 r6, (y23 r6, ())))))))))))))))))))))))) (
 .opt ((swTo_fn (y18 r6, (r5.1, (r5.2.1, ()))))) (fun r10 =>
 gd (y20 r6).length (
 gd (y21 r6).length (
 gd (y22 r6).length (
 gd (y23 r6).length (
 .ret (r6.2.1, (r6.2.2.1, (y3 r6, (y4 r6, (y5 r6, (y6 r6, (y7 r6, (y8 r6, (y9 r6, (y10 r6, (y11 r6, (y12 r6, (r10.1, (0, (0, (y20 r6, (y21 r6, (y22 r6, (y23 r6, ())))))))))))))))))))))))))) (
 .ite (true) (
 gd (y20 r6).length (
 gd (y21 r6).length (
 gd (y22 r6).length (
 gd (y23 r6).length (
 .ret (r6.2.1, (r6.2.2.1, (y3 r6, (y4 r6, (y5 r6, (y6 r6, (y7 r6, (y8 r6, (y9 r6, (y10 r6, (y11 r6, (y12 r6, ([], (4, (0, (y20 r6, (y21 r6, (y22 r6, (y23 r6, ())))))))))))))))))))))))) (
 .opt ((swTo_fn (y18 r6, (r5.1, (r5.2.1, ()))))) (fun r10 =>
 gd (y20 r6).length (
 gd (y21 r6).length (
 gd (y22 r6).length (
 gd (y23 r6).length (
 .ret (r6.2.1, (r6.2.2.1, (y3 r6, (y4 r6, (y5 r6, (y6 r6, (y7 r6, (y8 r6, (y9 r6, (y10 r6, (y11 r6, (y12 r6, (r10.1, (0, (0, (y20 r6, (y21 r6, (y22 r6, (y23 r6, ()))))))))))))))))))))))))))))))))))))) (
 .opt ((swTo_fn (y18 r4, (r5.1, (r5.2.1, ()))))) (fun r6 =>
 gd (y20 r4).length (
 gd (y21 r4).length (
 gd (y22 r4).length (
 gd (y23 r4).length (
 .ret (r4.2.1, (r4.2.2.1, (y3 r4, (y4 r4, (y5 r4, (y6 r4, (y7 r4, (y8 r4, (y9 r4, (y10 r4, (y11 r4, (y12 r4, (r6.1, (0, (0, (y20 r4, (y21 r4, (y22 r4, (y23 r4, ())))))))))))))))))))))))))))))))))))))) (
 .opt ((ipHop_fn (a17, ()))) (fun r3 =>
 .ite (!decide (r3.2.1 = 0)) (
 gd a6.length (
 gd a8.length (
 gd a9.length (
 gd a15.length (
 .ret (a0, (a1, (a2, (a3, (a4, (a5, (a7, (a10, (a11, (a12, (a13, (a14, ([], (2, (0, (a6, (a8, (a9, (a15, ())))))))))))))))))))))))) (
 gd a6.length (
 gd a8.length (
 gd a9.length (
 gd a15.length (
 .opt ((wMeasuredO_fn (a0, (a1, (a2, (a3, (a4, (a5, (a7, (a10, (a11, (a12, (a13, (a14, (r2.1, (r2.2.1, (r2.2.2.1, (y3 r2, (y4 r2, (r3.1, (a18, (a6, (a8, (a9, (a15, ()))))))))))))))))))))))))) (fun r4 =>
 .ite (!r4.1) (
 gd (y20 r4).length (
 gd (y21 r4).length (
 gd (y22 r4).length (
 gd (y23 r4).length (
 .ret (r4.2.1, (r4.2.2.1, (y3 r4, (y4 r4, (y5 r4, (y6 r4, (y7 r4, (y8 r4, (y9 r4, (y10 r4, (y11 r4, (y12 r4, ([], (3, (0, (y20 r4, (y21 r4, (y22 r4, (y23 r4, ())))))))))))))))))))))))) (
 .ite (a16) (
 .ite (!decide ((y15 r4) = 6)) (
 .opt ((ruDecide_fn (y20 r4, (y13 r4, (y14 r4, (y15 r4, (y16 r4, (y17 r4, (y7 r4, ()))))))))) (fun r5 =>
 .ite (!r5.1) (
 gd (y20 r4).length (
 gd (y21 r4).length (
 gd (y22 r4).length (
 gd (y23 r4).length (
 .ret (r4.2.1, (r4.2.2.1, (y3 r4, (y4 r4, (y5 r4, (y6 r4, (y7 r4, (y8 r4, (y9 r4, (y10 r4, (y11 r4, (y12 r4, ([], (4, (0, (y20 r4, (y21 r4, (y22 r4, (y23 r4, ())))))))))))))))))))))))) (
 .ite (decide ((y15 r4) = 6)) (
 .opt ((ipRead_fn (y18 r4, ()))) (fun r6 =>
 .opt ((tcRead_fn (y10 r6, (y7 r6, (y8 r6, ()))))) (fun r7 =>
 .opt ((trHearO_fn (y22 r4, (y13 r4, (y14 r4, (y16 r4, (y17 r4, (y4 r7, (y19 r4, ()))))))))) (fun r8 =>
 .ite (decide (r8.2.1 = 0)) (
 .ite (decide (r8.2.1 = 0)) (
 .ite (!r8.1) (
 gd (y20 r4).length (
 gd (y21 r4).length (
 .grd (decide (List.length r8.2.2.fst = List.length r8.2.2.1)) (
 gd (y23 r4).length (
 .ret (r4.2.1, (r4.2.2.1, (y3 r4, (y4 r4, (y5 r4, (y6 r4, (y7 r4, (y8 r4, (y9 r4, (y10 r4, (y11 r4, (y12 r4, ([], (4, (0, (y20 r4, (y21 r4, (r8.2.2.1, (y23 r4, ())))))))))))))))))))))))) (
 .opt ((natOutO_fn (y8 r4, (y9 r4, (y10 r4, (y11 r4, (y12 r4, (y23 r4, (y15 r4, (y13 r4, (y16 r4, (y19 r4, ())))))))))))) (fun r9 =>
 .ite (!decide ((y6 r9) = 0)) (
 gd (y20 r4).length (
 gd (y21 r4).length (
 .grd (decide (List.length r8.2.2.fst = List.length r8.2.2.1)) (
 gd (y23 r4).length (
 .ret (r4.2.1, (r4.2.2.1, (y3 r4, (y4 r4, (y5 r4, (y6 r4, (y7 r4, (y8 r4, (y9 r4, (y10 r4, (y11 r4, (y12 r4, ([], (5, (0, (y20 r4, (y21 r4, (r8.2.2.1, (y23 r4, ())))))))))))))))))))))))) (
 .opt ((swFrom_fn (y18 r4, (r4.2.1, (y5 r9, ()))))) (fun r10 =>
 gd (y20 r4).length (
 gd (y21 r4).length (
 .grd (decide (List.length r8.2.2.fst = List.length r8.2.2.1)) (
 gd (y7 r9).length (
 .ret (r4.2.1, (r4.2.2.1, (y3 r4, (y4 r4, (y5 r4, (y6 r4, (y7 r4, (r9.1, (r9.2.1, (r9.2.2.1, (y3 r9, (y4 r9, (r10.1, (0, (0, (y20 r4, (y21 r4, (r8.2.2.1, (y7 r9, ())))))))))))))))))))))))))))) (
 .ite (true) (
 gd (y20 r4).length (
 gd (y21 r4).length (
 .grd (decide (List.length r8.2.2.fst = List.length r8.2.2.1)) (
 gd (y23 r4).length (
 .ret (r4.2.1, (r4.2.2.1, (y3 r4, (y4 r4, (y5 r4, (y6 r4, (y7 r4, (y8 r4, (y9 r4, (y10 r4, (y11 r4, (y12 r4, ([], (4, (0, (y20 r4, (y21 r4, (r8.2.2.1, (y23 r4, ())))))))))))))))))))))))) (
 .opt ((natOutO_fn (y8 r4, (y9 r4, (y10 r4, (y11 r4, (y12 r4, (y23 r4, (y15 r4, (y13 r4, (y16 r4, (y19 r4, ())))))))))))) (fun r9 =>
 .ite (!decide ((y6 r9) = 0)) (
 gd (y20 r4).length (
 gd (y21 r4).length (
 .grd (decide (List.length r8.2.2.fst = List.length r8.2.2.1)) (
 gd (y23 r4).length (
 .ret (r4.2.1, (r4.2.2.1, (y3 r4, (y4 r4, (y5 r4, (y6 r4, (y7 r4, (y8 r4, (y9 r4, (y10 r4, (y11 r4, (y12 r4, ([], (5, (0, (y20 r4, (y21 r4, (r8.2.2.1, (y23 r4, ())))))))))))))))))))))))) (
 .opt ((swFrom_fn (y18 r4, (r4.2.1, (y5 r9, ()))))) (fun r10 =>
 gd (y20 r4).length (
 gd (y21 r4).length (
 .grd (decide (List.length r8.2.2.fst = List.length r8.2.2.1)) (
 gd (y7 r9).length (
 .ret (r4.2.1, (r4.2.2.1, (y3 r4, (y4 r4, (y5 r4, (y6 r4, (y7 r4, (r9.1, (r9.2.1, (r9.2.2.1, (y3 r9, (y4 r9, (r10.1, (0, (0, (y20 r4, (y21 r4, (r8.2.2.1, (y7 r9, ()))))))))))))))))))))))))))))) (
 .ite (decide (r8.2.1 = 0)) (
 .ite (!r8.1) (
 gd (y20 r4).length (
 gd (y21 r4).length (
 gd (y22 r4).length (
 gd (y23 r4).length (
 .ret (r4.2.1, (r4.2.2.1, (y3 r4, (y4 r4, (y5 r4, (y6 r4, (y7 r4, (y8 r4, (y9 r4, (y10 r4, (y11 r4, (y12 r4, ([], (4, (0, (y20 r4, (y21 r4, (y22 r4, (y23 r4, ())))))))))))))))))))))))) (
 .opt ((natOutO_fn (y8 r4, (y9 r4, (y10 r4, (y11 r4, (y12 r4, (y23 r4, (y15 r4, (y13 r4, (y16 r4, (y19 r4, ())))))))))))) (fun r9 =>
 .ite (!decide ((y6 r9) = 0)) (
 gd (y20 r4).length (
 gd (y21 r4).length (
 gd (y22 r4).length (
 gd (y23 r4).length (
 .ret (r4.2.1, (r4.2.2.1, (y3 r4, (y4 r4, (y5 r4, (y6 r4, (y7 r4, (y8 r4, (y9 r4, (y10 r4, (y11 r4, (y12 r4, ([], (5, (0, (y20 r4, (y21 r4, (y22 r4, (y23 r4, ())))))))))))))))))))))))) (
 .opt ((swFrom_fn (y18 r4, (r4.2.1, (y5 r9, ()))))) (fun r10 =>
 gd (y20 r4).length (
 gd (y21 r4).length (
 gd (y22 r4).length (
 gd (y7 r9).length (
 .ret (r4.2.1, (r4.2.2.1, (y3 r4, (y4 r4, (y5 r4, (y6 r4, (y7 r4, (r9.1, (r9.2.1, (r9.2.2.1, (y3 r9, (y4 r9, (r10.1, (0, (0, (y20 r4, (y21 r4, (y22 r4, (y7 r9, ())))))))))))))))))))))))))))) (
 .ite (true) (
 gd (y20 r4).length (
 gd (y21 r4).length (
 gd (y22 r4).length (
 gd (y23 r4).length (
 .ret (r4.2.1, (r4.2.2.1, (y3 r4, (y4 r4, (y5 r4, (y6 r4, (y7 r4, (y8 r4, (y9 r4, (y10 r4, (y11 r4, (y12 r4, ([], (4, (0, (y20 r4, (y21 r4, (y22 r4, (y23 r4, ())))))))))))))))))))))))) (
 .opt ((natOutO_fn (y8 r4, (y9 r4, (y10 r4, (y11 r4, (y12 r4, (y23 r4, (y15 r4, (y13 r4, (y16 r4, (y19 r4, ())))))))))))) (fun r9 =>
 .ite (!decide ((y6 r9) = 0)) (
 gd (y20 r4).length (
 gd (y21 r4).length (
 gd (y22 r4).length (
 gd (y23 r4).length (
 .ret (r4.2.1, (r4.2.2.1, (y3 r4, (y4 r4, (y5 r4, (y6 r4, (y7 r4, (y8 r4, (y9 r4, (y10 r4, (y11 r4, (y12 r4, ([], (5, (0, (y20 r4, (y21 r4, (y22 r4, (y23 r4, ())))))))))))))))))))))))) (
 .opt ((swFrom_fn (y18 r4, (r4.2.1, (y5 r9, ()))))) (fun r10 =>
 gd (y20 r4).length (
 gd (y21 r4).length (
 gd (y22 r4).length (
 gd (y7 r9).length (
 .ret (r4.2.1, (r4.2.2.1, (y3 r4, (y4 r4, (y5 r4, (y6 r4, (y7 r4, (r9.1, (r9.2.1, (r9.2.2.1, (y3 r9, (y4 r9, (r10.1, (0, (0, (y20 r4, (y21 r4, (y22 r4, (y7 r9, ()))))))))))))))))))))))))))))))))) (
 .opt ((natOutO_fn (y8 r4, (y9 r4, (y10 r4, (y11 r4, (y12 r4, (y23 r4, (y15 r4, (y13 r4, (y16 r4, (y19 r4, ())))))))))))) (fun r6 =>
 .ite (!decide ((y6 r6) = 0)) (
 gd (y20 r4).length (
 gd (y21 r4).length (
 gd (y22 r4).length (
 gd (y23 r4).length (
 .ret (r4.2.1, (r4.2.2.1, (y3 r4, (y4 r4, (y5 r4, (y6 r4, (y7 r4, (y8 r4, (y9 r4, (y10 r4, (y11 r4, (y12 r4, ([], (5, (0, (y20 r4, (y21 r4, (y22 r4, (y23 r4, ())))))))))))))))))))))))) (
 .opt ((swFrom_fn (y18 r4, (r4.2.1, (y5 r6, ()))))) (fun r7 =>
 gd (y20 r4).length (
 gd (y21 r4).length (
 gd (y22 r4).length (
 gd (y7 r6).length (
 .ret (r4.2.1, (r4.2.2.1, (y3 r4, (y4 r4, (y5 r4, (y6 r4, (y7 r4, (r6.1, (r6.2.1, (r6.2.2.1, (y3 r6, (y4 r6, (r7.1, (0, (0, (y20 r4, (y21 r4, (y22 r4, (y7 r6, ())))))))))))))))))))))))))))))) (
 gd (y20 r4).length (
 gd (y21 r4).length (
 gd (y22 r4).length (
 gd (y23 r4).length (
 .opt ((wKnownO_fn (y13 r4, (y14 r4, (y16 r4, (y17 r4, (r4.2.1, (r4.2.2.1, (y3 r4, (y4 r4, (y5 r4, (y6 r4, (y7 r4, (y8 r4, (y9 r4, (y10 r4, (y11 r4, (y12 r4, (y13 r4, (y14 r4, (y15 r4, (y16 r4, (y17 r4, (y18 r4, (y19 r4, (y20 r4, (y21 r4, (y22 r4, (y23 r4, ()))))))))))))))))))))))))))))) (fun r5 =>
 .ite (!r5.1) (
 .opt ((ruDecide_fn (y20 r5, (y13 r4, (y14 r4, (y15 r4, (y16 r4, (y17 r4, (y7 r5, ()))))))))) (fun r6 =>
 .ite (!r6.1) (
 gd (y20 r5).length (
 gd (y21 r5).length (
 gd (y22 r5).length (
 gd (y23 r5).length (
 .ret (r5.2.1, (r5.2.2.1, (y3 r5, (y4 r5, (y5 r5, (y6 r5, (y7 r5, (y8 r5, (y9 r5, (y10 r5, (y11 r5, (y12 r5, ([], (4, (0, (y20 r5, (y21 r5, (y22 r5, (y23 r5, ())))))))))))))))))))))))) (
 .ite (decide ((y15 r4) = 6)) (
 .opt ((ipRead_fn (y18 r5, ()))) (fun r7 =>
 .opt ((tcRead_fn (y10 r7, (y7 r7, (y8 r7, ()))))) (fun r8 =>
 .opt ((trHearO_fn (y22 r5, (y13 r4, (y14 r4, (y16 r4, (y17 r4, (y4 r8, (y19 r5, ()))))))))) (fun r9 =>
 .ite (decide (r9.2.1 = 0)) (
 .ite (decide (r9.2.1 = 0)) (
 .ite (!r9.1) (
 gd (y20 r5).length (
 gd (y21 r5).length (
 .grd (decide (List.length r9.2.2.fst = List.length r9.2.2.1)) (
 gd (y23 r5).length (
 .ret (r5.2.1, (r5.2.2.1, (y3 r5, (y4 r5, (y5 r5, (y6 r5, (y7 r5, (y8 r5, (y9 r5, (y10 r5, (y11 r5, (y12 r5, ([], (4, (0, (y20 r5, (y21 r5, (r9.2.2.1, (y23 r5, ())))))))))))))))))))))))) (
 .opt ((natOutO_fn (y8 r5, (y9 r5, (y10 r5, (y11 r5, (y12 r5, (y23 r5, (y15 r4, (y13 r4, (y16 r4, (y19 r5, ())))))))))))) (fun r10 =>
 .ite (!decide ((y6 r10) = 0)) (
 gd (y20 r5).length (
 gd (y21 r5).length (
 .grd (decide (List.length r9.2.2.fst = List.length r9.2.2.1)) (
 gd (y23 r5).length (
 .ret (r5.2.1, (r5.2.2.1, (y3 r5, (y4 r5, (y5 r5, (y6 r5, (y7 r5, (y8 r5, (y9 r5, (y10 r5, (y11 r5, (y12 r5, ([], (5, (0, (y20 r5, (y21 r5, (r9.2.2.1, (y23 r5, ())))))))))))))))))))))))) (
 .opt ((swFrom_fn (y18 r5, (r5.2.1, (y5 r10, ()))))) (fun r11 =>
 gd (y20 r5).length (
 gd (y21 r5).length (
 .grd (decide (List.length r9.2.2.fst = List.length r9.2.2.1)) (
 gd (y7 r10).length (
 .ret (r5.2.1, (r5.2.2.1, (y3 r5, (y4 r5, (y5 r5, (y6 r5, (y7 r5, (r10.1, (r10.2.1, (r10.2.2.1, (y3 r10, (y4 r10, (r11.1, (0, (0, (y20 r5, (y21 r5, (r9.2.2.1, (y7 r10, ())))))))))))))))))))))))))))) (
 .ite (true) (
 gd (y20 r5).length (
 gd (y21 r5).length (
 .grd (decide (List.length r9.2.2.fst = List.length r9.2.2.1)) (
 gd (y23 r5).length (
 .ret (r5.2.1, (r5.2.2.1, (y3 r5, (y4 r5, (y5 r5, (y6 r5, (y7 r5, (y8 r5, (y9 r5, (y10 r5, (y11 r5, (y12 r5, ([], (4, (0, (y20 r5, (y21 r5, (r9.2.2.1, (y23 r5, ())))))))))))))))))))))))) (
 .opt ((natOutO_fn (y8 r5, (y9 r5, (y10 r5, (y11 r5, (y12 r5, (y23 r5, (y15 r4, (y13 r4, (y16 r4, (y19 r5, ())))))))))))) (fun r10 =>
 .ite (!decide ((y6 r10) = 0)) (
 gd (y20 r5).length (
 gd (y21 r5).length (
 .grd (decide (List.length r9.2.2.fst = List.length r9.2.2.1)) (
 gd (y23 r5).length (
 .ret (r5.2.1, (r5.2.2.1, (y3 r5, (y4 r5, (y5 r5, (y6 r5, (y7 r5, (y8 r5, (y9 r5, (y10 r5, (y11 r5, (y12 r5, ([], (5, (0, (y20 r5, (y21 r5, (r9.2.2.1, (y23 r5, ())))))))))))))))))))))))) (
 .opt ((swFrom_fn (y18 r5, (r5.2.1, (y5 r10, ()))))) (fun r11 =>
 gd (y20 r5).length (
 gd (y21 r5).length (
 .grd (decide (List.length r9.2.2.fst = List.length r9.2.2.1)) (
 gd (y7 r10).length (
 .ret (r5.2.1, (r5.2.2.1, (y3 r5, (y4 r5, (y5 r5, (y6 r5, (y7 r5, (r10.1, (r10.2.1, (r10.2.2.1, (y3 r10, (y4 r10, (r11.1, (0, (0, (y20 r5, (y21 r5, (r9.2.2.1, (y7 r10, ()))))))))))))))))))))))))))))) (
 .ite (decide (r9.2.1 = 0)) (
 .ite (!r9.1) (
 gd (y20 r5).length (
 gd (y21 r5).length (
 gd (y22 r5).length (
 gd (y23 r5).length (
 .ret (r5.2.1, (r5.2.2.1, (y3 r5, (y4 r5, (y5 r5, (y6 r5, (y7 r5, (y8 r5, (y9 r5, (y10 r5, (y11 r5, (y12 r5, ([], (4, (0, (y20 r5, (y21 r5, (y22 r5, (y23 r5, ())))))))))))))))))))))))) (
 .opt ((natOutO_fn (y8 r5, (y9 r5, (y10 r5, (y11 r5, (y12 r5, (y23 r5, (y15 r4, (y13 r4, (y16 r4, (y19 r5, ())))))))))))) (fun r10 =>
 .ite (!decide ((y6 r10) = 0)) (
 gd (y20 r5).length (
 gd (y21 r5).length (
 gd (y22 r5).length (
 gd (y23 r5).length (
 .ret (r5.2.1, (r5.2.2.1, (y3 r5, (y4 r5, (y5 r5, (y6 r5, (y7 r5, (y8 r5, (y9 r5, (y10 r5, (y11 r5, (y12 r5, ([], (5, (0, (y20 r5, (y21 r5, (y22 r5, (y23 r5, ())))))))))))))))))))))))) (
 .opt ((swFrom_fn (y18 r5, (r5.2.1, (y5 r10, ()))))) (fun r11 =>
 gd (y20 r5).length (
 gd (y21 r5).length (
 gd (y22 r5).length (
 gd (y7 r10).length (
 .ret (r5.2.1, (r5.2.2.1, (y3 r5, (y4 r5, (y5 r5, (y6 r5, (y7 r5, (r10.1, (r10.2.1, (r10.2.2.1, (y3 r10, (y4 r10, (r11.1, (0, (0, (y20 r5, (y21 r5, (y22 r5, (y7 r10, ())))))))))))))))))))))))))))) (
 .ite (true) (
 gd (y20 r5).length (
 gd (y21 r5).length (
 gd (y22 r5).length (
 gd (y23 r5).length (
 .ret (r5.2.1, (r5.2.2.1, (y3 r5, (y4 r5, (y5 r5, (y6 r5, (y7 r5, (y8 r5, (y9 r5, (y10 r5, (y11 r5, (y12 r5, ([], (4, (0, (y20 r5, (y21 r5, (y22 r5, (y23 r5, ())))))))))))))))))))))))) (
 .opt ((natOutO_fn (y8 r5, (y9 r5, (y10 r5, (y11 r5, (y12 r5, (y23 r5, (y15 r4, (y13 r4, (y16 r4, (y19 r5, ())))))))))))) (fun r10 =>
 .ite (!decide ((y6 r10) = 0)) (
 gd (y20 r5).length (
 gd (y21 r5).length (
 gd (y22 r5).length (
 gd (y23 r5).length (
 .ret (r5.2.1, (r5.2.2.1, (y3 r5, (y4 r5, (y5 r5, (y6 r5, (y7 r5, (y8 r5, (y9 r5, (y10 r5, (y11 r5, (y12 r5, ([], (5, (0, (y20 r5, (y21 r5, (y22 r5, (y23 r5, ())))))))))))))))))))))))) (
 .opt ((swFrom_fn (y18 r5, (r5.2.1, (y5 r10, ()))))) (fun r11 =>
 gd (y20 r5).length (
 gd (y21 r5).length (
 gd (y22 r5).length (
 gd (y7 r10).length (
 .ret (r5.2.1, (r5.2.2.1, (y3 r5, (y4 r5, (y5 r5, (y6 r5, (y7 r5, (r10.1, (r10.2.1, (r10.2.2.1, (y3 r10, (y4 r10, (r11.1, (0, (0, (y20 r5, (y21 r5, (y22 r5, (y7 r10, ()))))))))))))))))))))))))))))))))) (
 .opt ((natOutO_fn (y8 r5, (y9 r5, (y10 r5, (y11 r5, (y12 r5, (y23 r5, (y15 r4, (y13 r4, (y16 r4, (y19 r5, ())))))))))))) (fun r7 =>
 .ite (!decide ((y6 r7) = 0)) (
 gd (y20 r5).length (
 gd (y21 r5).length (
 gd (y22 r5).length (
 gd (y23 r5).length (
 .ret (r5.2.1, (r5.2.2.1, (y3 r5, (y4 r5, (y5 r5, (y6 r5, (y7 r5, (y8 r5, (y9 r5, (y10 r5, (y11 r5, (y12 r5, ([], (5, (0, (y20 r5, (y21 r5, (y22 r5, (y23 r5, ())))))))))))))))))))))))) (
 .opt ((swFrom_fn (y18 r5, (r5.2.1, (y5 r7, ()))))) (fun r8 =>
 gd (y20 r5).length (
 gd (y21 r5).length (
 gd (y22 r5).length (
 gd (y7 r7).length (
 .ret (r5.2.1, (r5.2.2.1, (y3 r5, (y4 r5, (y5 r5, (y6 r5, (y7 r5, (r7.1, (r7.2.1, (r7.2.2.1, (y3 r7, (y4 r7, (r8.1, (0, (0, (y20 r5, (y21 r5, (y22 r5, (y7 r7, ())))))))))))))))))))))))))))))) (
 .ite (decide ((y15 r4) = 6)) (
 .opt ((ipRead_fn (y18 r5, ()))) (fun r6 =>
 .opt ((tcRead_fn (y10 r6, (y7 r6, (y8 r6, ()))))) (fun r7 =>
 .opt ((trHearO_fn (y22 r5, (y13 r4, (y14 r4, (y16 r4, (y17 r4, (y4 r7, (y19 r5, ()))))))))) (fun r8 =>
 .ite (decide (r8.2.1 = 0)) (
 .ite (decide (r8.2.1 = 0)) (
 .ite (!r8.1) (
 gd (y20 r5).length (
 gd (y21 r5).length (
 .grd (decide (List.length r8.2.2.fst = List.length r8.2.2.1)) (
 gd (y23 r5).length (
 .ret (r5.2.1, (r5.2.2.1, (y3 r5, (y4 r5, (y5 r5, (y6 r5, (y7 r5, (y8 r5, (y9 r5, (y10 r5, (y11 r5, (y12 r5, ([], (4, (0, (y20 r5, (y21 r5, (r8.2.2.1, (y23 r5, ())))))))))))))))))))))))) (
 .opt ((natOutO_fn (y8 r5, (y9 r5, (y10 r5, (y11 r5, (y12 r5, (y23 r5, (y15 r4, (y13 r4, (y16 r4, (y19 r5, ())))))))))))) (fun r9 =>
 .ite (!decide ((y6 r9) = 0)) (
 gd (y20 r5).length (
 gd (y21 r5).length (
 .grd (decide (List.length r8.2.2.fst = List.length r8.2.2.1)) (
 gd (y23 r5).length (
 .ret (r5.2.1, (r5.2.2.1, (y3 r5, (y4 r5, (y5 r5, (y6 r5, (y7 r5, (y8 r5, (y9 r5, (y10 r5, (y11 r5, (y12 r5, ([], (5, (0, (y20 r5, (y21 r5, (r8.2.2.1, (y23 r5, ())))))))))))))))))))))))) (
 .opt ((swFrom_fn (y18 r5, (r5.2.1, (y5 r9, ()))))) (fun r10 =>
 gd (y20 r5).length (
 gd (y21 r5).length (
 .grd (decide (List.length r8.2.2.fst = List.length r8.2.2.1)) (
 gd (y7 r9).length (
 .ret (r5.2.1, (r5.2.2.1, (y3 r5, (y4 r5, (y5 r5, (y6 r5, (y7 r5, (r9.1, (r9.2.1, (r9.2.2.1, (y3 r9, (y4 r9, (r10.1, (0, (0, (y20 r5, (y21 r5, (r8.2.2.1, (y7 r9, ())))))))))))))))))))))))))))) (
 .ite (true) (
 gd (y20 r5).length (
 gd (y21 r5).length (
 .grd (decide (List.length r8.2.2.fst = List.length r8.2.2.1)) (
 gd (y23 r5).length (
 .ret (r5.2.1, (r5.2.2.1, (y3 r5, (y4 r5, (y5 r5, (y6 r5, (y7 r5, (y8 r5, (y9 r5, (y10 r5, (y11 r5, (y12 r5, ([], (4, (0, (y20 r5, (y21 r5, (r8.2.2.1, (y23 r5, ())))))))))))))))))))))))) (
 .opt ((natOutO_fn (y8 r5, (y9 r5, (y10 r5, (y11 r5, (y12 r5, (y23 r5, (y15 r4, (y13 r4, (y16 r4, (y19 r5, ())))))))))))) (fun r9 =>
 .ite (!decide ((y6 r9) = 0)) (
 gd (y20 r5).length (
 gd (y21 r5).length (
 .grd (decide (List.length r8.2.2.fst = List.length r8.2.2.1)) (
 gd (y23 r5).length (
 .ret (r5.2.1, (r5.2.2.1, (y3 r5, (y4 r5, (y5 r5, (y6 r5, (y7 r5, (y8 r5, (y9 r5, (y10 r5, (y11 r5, (y12 r5, ([], (5, (0, (y20 r5, (y21 r5, (r8.2.2.1, (y23 r5, ())))))))))))))))))))))))) (
 .opt ((swFrom_fn (y18 r5, (r5.2.1, (y5 r9, ()))))) (fun r10 =>
 gd (y20 r5).length (
 gd (y21 r5).length (
 .grd (decide (List.length r8.2.2.fst = List.length r8.2.2.1)) (
 gd (y7 r9).length (
 .ret (r5.2.1, (r5.2.2.1, (y3 r5, (y4 r5, (y5 r5, (y6 r5, (y7 r5, (r9.1, (r9.2.1, (r9.2.2.1, (y3 r9, (y4 r9, (r10.1, (0, (0, (y20 r5, (y21 r5, (r8.2.2.1, (y7 r9, ()))))))))))))))))))))))))))))) (
 .ite (decide (r8.2.1 = 0)) (
 .ite (!r8.1) (
 gd (y20 r5).length (
 gd (y21 r5).length (
 gd (y22 r5).length (
 gd (y23 r5).length (
 .ret (r5.2.1, (r5.2.2.1, (y3 r5, (y4 r5, (y5 r5, (y6 r5, (y7 r5, (y8 r5, (y9 r5, (y10 r5, (y11 r5, (y12 r5, ([], (4, (0, (y20 r5, (y21 r5, (y22 r5, (y23 r5, ())))))))))))))))))))))))) (
 .opt ((natOutO_fn (y8 r5, (y9 r5, (y10 r5, (y11 r5, (y12 r5, (y23 r5, (y15 r4, (y13 r4, (y16 r4, (y19 r5, ())))))))))))) (fun r9 =>
 .ite (!decide ((y6 r9) = 0)) (
 gd (y20 r5).length (
 gd (y21 r5).length (
 gd (y22 r5).length (
 gd (y23 r5).length (
 .ret (r5.2.1, (r5.2.2.1, (y3 r5, (y4 r5, (y5 r5, (y6 r5, (y7 r5, (y8 r5, (y9 r5, (y10 r5, (y11 r5, (y12 r5, ([], (5, (0, (y20 r5, (y21 r5, (y22 r5, (y23 r5, ())))))))))))))))))))))))) (
 .opt ((swFrom_fn (y18 r5, (r5.2.1, (y5 r9, ()))))) (fun r10 =>
 gd (y20 r5).length (
 gd (y21 r5).length (
 gd (y22 r5).length (
 gd (y7 r9).length (
 .ret (r5.2.1, (r5.2.2.1, (y3 r5, (y4 r5, (y5 r5, (y6 r5, (y7 r5, (r9.1, (r9.2.1, (r9.2.2.1, (y3 r9, (y4 r9, (r10.1, (0, (0, (y20 r5, (y21 r5, (y22 r5, (y7 r9, ())))))))))))))))))))))))))))) (
 .ite (true) (
 gd (y20 r5).length (
 gd (y21 r5).length (
 gd (y22 r5).length (
 gd (y23 r5).length (
 .ret (r5.2.1, (r5.2.2.1, (y3 r5, (y4 r5, (y5 r5, (y6 r5, (y7 r5, (y8 r5, (y9 r5, (y10 r5, (y11 r5, (y12 r5, ([], (4, (0, (y20 r5, (y21 r5, (y22 r5, (y23 r5, ())))))))))))))))))))))))) (
 .opt ((natOutO_fn (y8 r5, (y9 r5, (y10 r5, (y11 r5, (y12 r5, (y23 r5, (y15 r4, (y13 r4, (y16 r4, (y19 r5, ())))))))))))) (fun r9 =>
 .ite (!decide ((y6 r9) = 0)) (
 gd (y20 r5).length (
 gd (y21 r5).length (
 gd (y22 r5).length (
 gd (y23 r5).length (
 .ret (r5.2.1, (r5.2.2.1, (y3 r5, (y4 r5, (y5 r5, (y6 r5, (y7 r5, (y8 r5, (y9 r5, (y10 r5, (y11 r5, (y12 r5, ([], (5, (0, (y20 r5, (y21 r5, (y22 r5, (y23 r5, ())))))))))))))))))))))))) (
 .opt ((swFrom_fn (y18 r5, (r5.2.1, (y5 r9, ()))))) (fun r10 =>
 gd (y20 r5).length (
 gd (y21 r5).length (
 gd (y22 r5).length (
 gd (y7 r9).length (
 .ret (r5.2.1, (r5.2.2.1, (y3 r5, (y4 r5, (y5 r5, (y6 r5, (y7 r5, (r9.1, (r9.2.1, (r9.2.2.1, (y3 r9, (y4 r9, (r10.1, (0, (0, (y20 r5, (y21 r5, (y22 r5, (y7 r9, ()))))))))))))))))))))))))))))))))) (
 .opt ((natOutO_fn (y8 r5, (y9 r5, (y10 r5, (y11 r5, (y12 r5, (y23 r5, (y15 r4, (y13 r4, (y16 r4, (y19 r5, ())))))))))))) (fun r6 =>
 .ite (!decide ((y6 r6) = 0)) (
 gd (y20 r5).length (
 gd (y21 r5).length (
 gd (y22 r5).length (
 gd (y23 r5).length (
 .ret (r5.2.1, (r5.2.2.1, (y3 r5, (y4 r5, (y5 r5, (y6 r5, (y7 r5, (y8 r5, (y9 r5, (y10 r5, (y11 r5, (y12 r5, ([], (5, (0, (y20 r5, (y21 r5, (y22 r5, (y23 r5, ())))))))))))))))))))))))) (
 .opt ((swFrom_fn (y18 r5, (r5.2.1, (y5 r6, ()))))) (fun r7 =>
 gd (y20 r5).length (
 gd (y21 r5).length (
 gd (y22 r5).length (
 gd (y7 r6).length (
 .ret (r5.2.1, (r5.2.2.1, (y3 r5, (y4 r5, (y5 r5, (y6 r5, (y7 r5, (r6.1, (r6.2.1, (r6.2.2.1, (y3 r6, (y4 r6, (r7.1, (0, (0, (y20 r5, (y21 r5, (y22 r5, (y7 r6, ()))))))))))))))))))))))))))))))))))) (
 .opt ((natIn_fn (y8 r4, (y9 r4, (y10 r4, (y11 r4, (y12 r4, (y23 r4, (y15 r4, (y17 r4, (y19 r4, ()))))))))))) (fun r5 =>
 .ite (!decide (r5.2.2.1 = 0)) (
 gd (y20 r4).length (
 gd (y21 r4).length (
 gd (y22 r4).length (
 gd (y23 r4).length (
 .ret (r4.2.1, (r4.2.2.1, (y3 r4, (y4 r4, (y5 r4, (y6 r4, (y7 r4, (y8 r4, (y9 r4, (y10 r4, (y11 r4, (y12 r4, ([], (4, (0, (y20 r4, (y21 r4, (y22 r4, (y23 r4, ())))))))))))))))))))))))) (
 .ite (decide ((y15 r4) = 6)) (
 gd (y20 r4).length (
 gd (y21 r4).length (
 gd (y22 r4).length (
 gd (y23 r4).length (
 .opt ((wKnownO_fn (y13 r4, (r5.1, (y16 r4, (r5.2.1, (r4.2.1, (r4.2.2.1, (y3 r4, (y4 r4, (y5 r4, (y6 r4, (y7 r4, (y8 r4, (y9 r4, (y10 r4, (y11 r4, (y12 r4, (y13 r4, (y14 r4, (y15 r4, (y16 r4, (y17 r4, (y18 r4, (y19 r4, (y20 r4, (y21 r4, (y22 r4, (y23 r4, ()))))))))))))))))))))))))))))) (fun r6 =>
 .ite (!r6.1) (
 gd (y20 r6).length (
 gd (y21 r6).length (
 gd (y22 r6).length (
 gd (y23 r6).length (
 .ret (r6.2.1, (r6.2.2.1, (y3 r6, (y4 r6, (y5 r6, (y6 r6, (y7 r6, (y8 r6, (y9 r6, (y10 r6, (y11 r6, (y12 r6, ([], (4, (0, (y20 r6, (y21 r6, (y22 r6, (y23 r6, ())))))))))))))))))))))))) (
 .opt ((ipRead_fn (y18 r6, ()))) (fun r7 =>
 .opt ((tcRead_fn (y10 r7, (y7 r7, (y8 r7, ()))))) (fun r8 =>
 .opt ((trHearO_fn (y22 r6, (y13 r4, (r5.1, (y16 r4, (r5.2.1, (y4 r8, (y19 r6, ()))))))))) (fun r9 =>
 .ite (decide (r9.2.1 = 0)) (
 .ite (decide (r9.2.1 = 0)) (
 .ite (!r9.1) (
 gd (y20 r6).length (
 gd (y21 r6).length (
 .grd (decide (List.length r9.2.2.fst = List.length r9.2.2.1)) (
 gd (y23 r6).length (
 .ret (r6.2.1, (r6.2.2.1, (y3 r6, (y4 r6, (y5 r6, (y6 r6, (y7 r6, (y8 r6, (y9 r6, (y10 r6, (y11 r6, (y12 r6, ([], (4, (0, (y20 r6, (y21 r6, (r9.2.2.1, (y23 r6, ())))))))))))))))))))))))) (
 .opt ((swTo_fn (y18 r6, (r5.1, (r5.2.1, ()))))) (fun r10 =>
 gd (y20 r6).length (
 gd (y21 r6).length (
 .grd (decide (List.length r9.2.2.fst = List.length r9.2.2.1)) (
 gd (y23 r6).length (
 .ret (r6.2.1, (r6.2.2.1, (y3 r6, (y4 r6, (y5 r6, (y6 r6, (y7 r6, (y8 r6, (y9 r6, (y10 r6, (y11 r6, (y12 r6, (r10.1, (0, (0, (y20 r6, (y21 r6, (r9.2.2.1, (y23 r6, ())))))))))))))))))))))))))) (
 .ite (true) (
 gd (y20 r6).length (
 gd (y21 r6).length (
 .grd (decide (List.length r9.2.2.fst = List.length r9.2.2.1)) (
 gd (y23 r6).length (
 .ret (r6.2.1, (r6.2.2.1, (y3 r6, (y4 r6, (y5 r6, (y6 r6, (y7 r6, (y8 r6, (y9 r6, (y10 r6, (y11 r6, (y12 r6, ([], (4, (0, (y20 r6, (y21 r6, (r9.2.2.1, (y23 r6, ())))))))))))))))))))))))) (
 .opt ((swTo_fn (y18 r6, (r5.1, (r5.2.1, ()))))) (fun r10 =>
 gd (y20 r6).length (
 gd (y21 r6).length (
 .grd (decide (List.length r9.2.2.fst = List.length r9.2.2.1)) (
 gd (y23 r6).length (
 .ret (r6.2.1, (r6.2.2.1, (y3 r6, (y4 r6, (y5 r6, (y6 r6, (y7 r6, (y8 r6, (y9 r6, (y10 r6, (y11 r6, (y12 r6, (r10.1, (0, (0, (y20 r6, (y21 r6, (r9.2.2.1, (y23 r6, ()))))))))))))))))))))))))))) (
 .ite (decide (r9.2.1 = 0)) (
 .ite (!r9.1) (
 gd (y20 r6).length (
 gd (y21 r6).length (
 gd (y22 r6).length (
 gd (y23 r6).length (
 .ret (r6.2.1, (r6.2.2.1, (y3 r6, (y4 r6, (y5 r6, (y6 r6, (y7 r6, (y8 r6, (y9 r6, (y10 r6, (y11 r6, (y12 r6, ([], (4, (0, (y20 r6, (y21 r6, (y22 r6, (y23 r6, ())))))))))))))))))))))))) (
 .opt ((swTo_fn (y18 r6, (r5.1, (r5.2.1, ()))))) (fun r10 =>
 gd (y20 r6).length (
 gd (y21 r6).length (
 gd (y22 r6).length (
 gd (y23 r6).length (
 .ret (r6.2.1, (r6.2.2.1, (y3 r6, (y4 r6, (y5 r6, (y6 r6, (y7 r6, (y8 r6, (y9 r6, (y10 r6, (y11 r6, (y12 r6, (r10.1, (0, (0, (y20 r6, (y21 r6, (y22 r6, (y23 r6, ())))))))))))))))))))))))))) (
 .ite (true) (
 gd (y20 r6).length (
 gd (y21 r6).length (
 gd (y22 r6).length (
 gd (y23 r6).length (
 .ret (r6.2.1, (r6.2.2.1, (y3 r6, (y4 r6, (y5 r6, (y6 r6, (y7 r6, (y8 r6, (y9 r6, (y10 r6, (y11 r6, (y12 r6, ([], (4, (0, (y20 r6, (y21 r6, (y22 r6, (y23 r6, ())))))))))))))))))))))))) (
 .opt ((swTo_fn (y18 r6, (r5.1, (r5.2.1, ()))))) (fun r10 =>
 gd (y20 r6).length (
 gd (y21 r6).length (
 gd (y22 r6).length (
 gd (y23 r6).length (
 .ret (r6.2.1, (r6.2.2.1, (y3 r6, (y4 r6, (y5 r6, (y6 r6, (y7 r6, (y8 r6, (y9 r6, (y10 r6, (y11 r6, (y12 r6, (r10.1, (0, (0, (y20 r6, (y21 r6, (y22 r6, (y23 r6, ()))))))))))))))))))))))))))))))))))))) (
 .opt ((swTo_fn (y18 r4, (r5.1, (r5.2.1, ()))))) (fun r6 =>
 gd (y20 r4).length (
 gd (y21 r4).length (
 gd (y22 r4).length (
 gd (y23 r4).length (
 .ret (r4.2.1, (r4.2.2.1, (y3 r4, (y4 r4, (y5 r4, (y6 r4, (y7 r4, (y8 r4, (y9 r4, (y10 r4, (y11 r4, (y12 r4, (r6.1, (0, (0, (y20 r4, (y21 r4, (y22 r4, (y23 r4, ()))))))))))))))))))))))))))))))))))))))))))))))))
noncomputable def gm69 : List (PF Go.Proofs.Tryz.prog) := gm68 ++ [GS.pf wKnownO, wTalkedM, wLeavesM, wEntersM, wGoesM]
theorem hsHearO_eq (x : ty23_) : gsTr Tryz.prog cod gm69 [] 30 8 hsHearO_ap hsHearO_rp x = hsHearO_tree x := by kernel_rfl
def hsHearO_fn (x : ty23_) : Option ty28_ := (hsHearO_tree x).eval
def hsHearO : GS Tryz.prog := ⟨8, [0, 0, 0, 0], hsHearO_ap, hsHearO_rp, hsHearO_fn, fun x r h ys m g he hg => gs_sound (cod := cod) (Γ := gm69) (Λs := []) (n := 30) ((congrArg Tr.eval (hsHearO_eq x)).trans h) he hg⟩
end Go.Proofs.YthkhikdglmaiaaaGreatDoor.X
namespace Go.Proofs.YthkhikdglmaiaaaGreatDoor.X
open Go Go.RowKit Go.Proofs.YthkhikdglmaiaaaGreatDoor.Abs
set_option maxRecDepth 100000
set_option linter.unusedVariables false
section
variable {α β γ δ : Type} {q : β -> α}
def Le (q : β -> α) (t : Tr α) (t' : Tr β) : Prop := ∀ r, t'.eval = some r -> t.eval = some (q r)
theorem l_r {a : α} {b : β} (h : a = q b) : Le q (.ret a) (.ret b) := fun r hr => by cases hr; rw [h]; rfl
theorem l_i {c : Bool} {a b : Tr α} {a' b' : Tr β} (h1 : Le q a a') (h2 : Le q b b') : Le q (.ite c a b) (.ite c a' b') := fun r hr => by
 cases c
 . exact h2 r hr
 . exact h1 r hr
theorem l_g {c : Bool} {a : Tr α} {a' : Tr β} (h : Le q a a') : Le q (.grd c a) (.grd c a') := fun r hr => by
 cases c
 . cases hr
 . exact h r hr
theorem l_s {n : Nat} {a : Tr α} {t' : Tr β} (h : Le q a t') : Le q (.grd (decide (n = n)) a) t' := fun r hr => by rw [decide_eq_true (rfl : n = n)]; exact h r hr
theorem l_4 {n1 n2 n3 n4 : Nat} {a : Tr α} {t' : Tr β} (h : Le q a t') : Le q (.grd (decide (n1 = n1)) (.grd (decide (n2 = n2)) (.grd (decide (n3 = n3)) (.grd (decide (n4 = n4)) a)))) t' := l_s (l_s (l_s (l_s h)))
theorem l_R {c : Bool} {t : Tr α} {a' : Tr β} (h : Le q t a') : Le q t (.grd c a') := fun r hr => by
 cases c
 . cases hr
 . exact h r hr
theorem l_f (t : Tr α) (n : Nat) : Le q t (.fail n) := fun r hr => by cases hr
theorem l_o {e : Option γ} {k : γ -> Tr α} {k' : γ -> Tr β} (h : ∀ r, Le q (k r) (k' r)) : Le q (.opt e k) (.opt e k') := fun r hr => by
 cases e with
 | none => cases hr
 | some x => exact h x r hr
theorem l_m {e : Option γ} {e' : Option δ} {g : δ -> γ} {k : γ -> Tr α} {k' : δ -> Tr β} (hm : ∀ r, e' = some r -> e = some (g r)) (h : ∀ r, Le q (k (g r)) (k' r)) : Le q (.opt e k) (.opt e' k') := fun r hr => by
 cases e' with
 | none => cases hr
 | some x => rw [hm x rfl]; exact h x r hr
theorem l_in {t : Tr α} {e' : Option γ} {t0 : Tr γ} {k' : γ -> Tr β} (he : e' = t0.eval) (h : Le q t (t0.bind k')) : Le q t (.opt e' k') := fun r hr => h r (by
 rw [Tr.eval_bind, <- he]; exact hr)
end
abbrev trHearO_q (r : ((List TTalk) × (Bool × (Int × Unit)))) : (Bool × (Int × ((List TTalk) × Unit))) := (r.2.1, (r.2.2.1, (r.1, ())))
theorem trHearO_le {a0 : (List TTalk)} {a1 : Int} {a2 : Int} {a3 : Int} {a4 : Int} {a5 : Int} {a6 : Int} : ∀ r, trHear_fn (a0, (a1, (a2, (a3, (a4, (a5, (a6, ()))))))) = some r -> trHearO_fn (a0, (a1, (a2, (a3, (a4, (a5, (a6, ()))))))) = some (trHearO_q r) :=
 show Le trHearO_q (trHearO_tree (a0, (a1, (a2, (a3, (a4, (a5, (a6, ())))))))) (trHear_tree (a0, (a1, (a2, (a3, (a4, (a5, (a6, ())))))))) from
 (l_g (l_o fun _ => (l_i (l_s (l_r rfl))
 (l_i (l_g (l_o fun _ => (l_o fun _ => (l_i (l_s (l_r rfl))
 (l_i (l_s (l_r rfl))
 (l_i (l_s (l_r rfl))
 (l_i (l_s (l_r rfl))
 (l_i (l_s (l_r rfl))
 (l_g (l_s (l_R (l_o fun _ => (l_o fun _ => (l_i (l_i (l_s (l_r rfl))
 (l_i (l_s (l_r rfl))
 (l_g (l_s (l_r rfl)))))
 (l_g (l_o fun _ => (l_i (l_o fun _ => (l_i (l_s (l_r rfl))
 (l_s (l_R (l_o fun _ => (l_i (l_s (l_r rfl))
 (l_g (l_s (l_r rfl)))))))))
 (l_s (l_R (l_o fun _ => (l_i (l_s (l_r rfl))
 (l_g (l_s (l_r rfl))))))))))))))))))))))))
 (l_o fun _ => (l_i (l_s (l_r rfl))
 (l_i (l_s (l_r rfl))
 (l_i (l_s (l_r rfl))
 (l_i (l_s (l_r rfl))
 (l_i (l_s (l_r rfl))
 (l_g (l_s (l_R (l_o fun _ => (l_o fun _ => (l_i (l_i (l_s (l_r rfl))
 (l_i (l_s (l_r rfl))
 (l_g (l_s (l_r rfl)))))
 (l_g (l_o fun _ => (l_i (l_o fun _ => (l_i (l_s (l_r rfl))
 (l_s (l_R (l_o fun _ => (l_i (l_s (l_r rfl))
 (l_g (l_s (l_r rfl)))))))))
 (l_s (l_R (l_o fun _ => (l_i (l_s (l_r rfl))
 (l_g (l_s (l_r rfl))))))))))))))))))))))))))
abbrev natOutO_q (r : (Int × (Int × (Int × (Int × (Int × ((List TMap) × (Int × (Int × Unit))))))))) : (Int × (Int × (Int × (Int × (Int × (Int × (Int × ((List TMap) × Unit)))))))) := (r.1, (r.2.1, (r.2.2.1, (r.2.2.2.1, (r.2.2.2.2.1, (r.2.2.2.2.2.2.1, (r.2.2.2.2.2.2.2.1, (r.2.2.2.2.2.1, ()))))))))
theorem natOutO_le {a0 : Int} {a1 : Int} {a2 : Int} {a3 : Int} {a4 : Int} {a5 : (List TMap)} {a6 : Int} {a7 : Int} {a8 : Int} {a9 : Int} : ∀ r, natOut_fn (a0, (a1, (a2, (a3, (a4, (a5, (a6, (a7, (a8, (a9, ())))))))))) = some r -> natOutO_fn (a0, (a1, (a2, (a3, (a4, (a5, (a6, (a7, (a8, (a9, ())))))))))) = some (natOutO_q r) :=
 show Le natOutO_q (natOutO_tree (a0, (a1, (a2, (a3, (a4, (a5, (a6, (a7, (a8, (a9, ()))))))))))) (natOut_tree (a0, (a1, (a2, (a3, (a4, (a5, (a6, (a7, (a8, (a9, ()))))))))))) from
 (l_g (l_o fun _ => (l_i (l_s (l_r rfl))
 (l_i (l_g (l_o fun _ => (l_i (l_i (l_s (l_r rfl))
 (l_i (l_s (l_r rfl))
 (l_i (l_s (l_r rfl))
 (l_i (l_s (l_r rfl))
 (l_i (l_s (l_r rfl))
 (l_g (l_s (l_R (l_o fun _ => (l_o fun _ => (l_i (l_g (l_o fun _ => (l_s (l_R (l_o fun _ => (l_g (l_s (l_r rfl))))))))
 (l_i (l_o fun _ => (l_i (l_s (l_r rfl))
 (l_g (l_s (l_r rfl)))))
 (l_i (l_o fun _ => (l_i (l_s (l_r rfl))
 (l_g (l_s (l_r rfl)))))
 (l_f _ _))))))))))))))
 (l_i (l_s (l_r rfl))
 (l_i (l_s (l_r rfl))
 (l_i (l_s (l_r rfl))
 (l_i (l_s (l_r rfl))
 (l_g (l_s (l_R (l_o fun _ => (l_o fun _ => (l_i (l_g (l_o fun _ => (l_s (l_R (l_o fun _ => (l_g (l_s (l_r rfl))))))))
 (l_i (l_o fun _ => (l_i (l_s (l_r rfl))
 (l_g (l_s (l_r rfl)))))
 (l_i (l_o fun _ => (l_i (l_s (l_r rfl))
 (l_g (l_s (l_r rfl)))))
 (l_f _ _))))))))))))))))
 (l_i (l_i (l_s (l_r rfl))
 (l_i (l_s (l_r rfl))
 (l_i (l_s (l_r rfl))
 (l_i (l_s (l_r rfl))
 (l_i (l_s (l_r rfl))
 (l_g (l_s (l_R (l_o fun _ => (l_o fun _ => (l_i (l_g (l_o fun _ => (l_s (l_R (l_o fun _ => (l_g (l_s (l_r rfl))))))))
 (l_i (l_o fun _ => (l_i (l_s (l_r rfl))
 (l_g (l_s (l_r rfl)))))
 (l_i (l_o fun _ => (l_i (l_s (l_r rfl))
 (l_g (l_s (l_r rfl)))))
 (l_f _ _))))))))))))))
 (l_i (l_s (l_r rfl))
 (l_i (l_s (l_r rfl))
 (l_i (l_s (l_r rfl))
 (l_i (l_s (l_r rfl))
 (l_g (l_s (l_R (l_o fun _ => (l_o fun _ => (l_i (l_g (l_o fun _ => (l_s (l_R (l_o fun _ => (l_g (l_s (l_r rfl))))))))
 (l_i (l_o fun _ => (l_i (l_s (l_r rfl))
 (l_g (l_s (l_r rfl)))))
 (l_i (l_o fun _ => (l_i (l_s (l_r rfl))
 (l_g (l_s (l_r rfl)))))
 (l_f _ _))))))))))))))))))
abbrev wMeasuredO_q (r : (Bool × (Int × (Int × (Int × (Int × (Int × (Int × ((List TRule) × (Bool × ((List TTalk) × (Int × (Int × (Int × (Int × (Int × ((List TMap) × (Int × (Int × (Int × (Int × (Int × ((List UInt8) × (Int × ((List TMeter) × Unit))))))))))))))))))))))))) : (Bool × (Int × (Int × (Int × (Int × (Int × (Int × (Bool × (Int × (Int × (Int × (Int × (Int × (Int × (Int × (Int × (Int × (Int × ((List UInt8) × (Int × ((List TRule) × ((List TMeter) × ((List TTalk) × ((List TMap) × Unit)))))))))))))))))))))))) := (r.1, (r.2.1, (r.2.2.1, (r.2.2.2.1, (r.2.2.2.2.1, (r.2.2.2.2.2.1, (r.2.2.2.2.2.2.1, (r.2.2.2.2.2.2.2.2.1, (r.2.2.2.2.2.2.2.2.2.2.1, (r.2.2.2.2.2.2.2.2.2.2.2.1, (r.2.2.2.2.2.2.2.2.2.2.2.2.1, (r.2.2.2.2.2.2.2.2.2.2.2.2.2.1, (r.2.2.2.2.2.2.2.2.2.2.2.2.2.2.1, (r.2.2.2.2.2.2.2.2.2.2.2.2.2.2.2.2.1, (r.2.2.2.2.2.2.2.2.2.2.2.2.2.2.2.2.2.1, (r.2.2.2.2.2.2.2.2.2.2.2.2.2.2.2.2.2.2.1, (r.2.2.2.2.2.2.2.2.2.2.2.2.2.2.2.2.2.2.2.1, (r.2.2.2.2.2.2.2.2.2.2.2.2.2.2.2.2.2.2.2.2.1, (r.2.2.2.2.2.2.2.2.2.2.2.2.2.2.2.2.2.2.2.2.2.1, (r.2.2.2.2.2.2.2.2.2.2.2.2.2.2.2.2.2.2.2.2.2.2.1, (r.2.2.2.2.2.2.2.1, (r.2.2.2.2.2.2.2.2.2.2.2.2.2.2.2.2.2.2.2.2.2.2.2.1, (r.2.2.2.2.2.2.2.2.2.1, (r.2.2.2.2.2.2.2.2.2.2.2.2.2.2.2.1, ()))))))))))))))))))))))))
theorem wMeasuredO_le {a0 : Int} {a1 : Int} {a2 : Int} {a3 : Int} {a4 : Int} {a5 : Int} {a6 : (List TRule)} {a7 : Bool} {a8 : (List TTalk)} {a9 : Int} {a10 : Int} {a11 : Int} {a12 : Int} {a13 : Int} {a14 : (List TMap)} {a15 : Int} {a16 : Int} {a17 : Int} {a18 : Int} {a19 : Int} {a20 : (List UInt8)} {a21 : Int} {a22 : (List TMeter)} : ∀ r, wMeasured_fn (a0, (a1, (a2, (a3, (a4, (a5, (a6, (a7, (a8, (a9, (a10, (a11, (a12, (a13, (a14, (a15, (a16, (a17, (a18, (a19, (a20, (a21, (a22, ()))))))))))))))))))))))) = some r -> wMeasuredO_fn (a0, (a1, (a2, (a3, (a4, (a5, (a7, (a9, (a10, (a11, (a12, (a13, (a15, (a16, (a17, (a18, (a19, (a20, (a21, (a6, (a22, (a8, (a14, ()))))))))))))))))))))))) = some (wMeasuredO_q r) :=
 show Le wMeasuredO_q (wMeasuredO_tree (a0, (a1, (a2, (a3, (a4, (a5, (a7, (a9, (a10, (a11, (a12, (a13, (a15, (a16, (a17, (a18, (a19, (a20, (a21, (a6, (a22, (a8, (a14, ())))))))))))))))))))))))) (wMeasured_tree (a0, (a1, (a2, (a3, (a4, (a5, (a6, (a7, (a8, (a9, (a10, (a11, (a12, (a13, (a14, (a15, (a16, (a17, (a18, (a19, (a20, (a21, (a22, ())))))))))))))))))))))))) from
 (l_o fun _ => (l_i (l_g (l_o fun _ => (l_s (l_R (l_o fun _ => (l_o fun _ => (l_g (l_4 (l_R (l_r rfl))))))))))
 (l_i (l_s (l_R (l_o fun _ => (l_o fun _ => (l_g (l_4 (l_R (l_r rfl))))))))
 (l_o fun _ => (l_g (l_4 (l_R (l_r rfl))))))))
abbrev wKnownO_q (r : (Bool × (Int × (Int × (Int × (Int × (Int × (Int × ((List TRule) × (Bool × ((List TTalk) × (Int × (Int × (Int × (Int × (Int × ((List TMap) × (Int × (Int × (Int × (Int × (Int × ((List UInt8) × (Int × ((List TMeter) × Unit))))))))))))))))))))))))) : (Bool × (Int × (Int × (Int × (Int × (Int × (Int × (Bool × (Int × (Int × (Int × (Int × (Int × (Int × (Int × (Int × (Int × (Int × ((List UInt8) × (Int × ((List TRule) × ((List TMeter) × ((List TTalk) × ((List TMap) × Unit)))))))))))))))))))))))) := (r.1, (r.2.1, (r.2.2.1, (r.2.2.2.1, (r.2.2.2.2.1, (r.2.2.2.2.2.1, (r.2.2.2.2.2.2.1, (r.2.2.2.2.2.2.2.2.1, (r.2.2.2.2.2.2.2.2.2.2.1, (r.2.2.2.2.2.2.2.2.2.2.2.1, (r.2.2.2.2.2.2.2.2.2.2.2.2.1, (r.2.2.2.2.2.2.2.2.2.2.2.2.2.1, (r.2.2.2.2.2.2.2.2.2.2.2.2.2.2.1, (r.2.2.2.2.2.2.2.2.2.2.2.2.2.2.2.2.1, (r.2.2.2.2.2.2.2.2.2.2.2.2.2.2.2.2.2.1, (r.2.2.2.2.2.2.2.2.2.2.2.2.2.2.2.2.2.2.1, (r.2.2.2.2.2.2.2.2.2.2.2.2.2.2.2.2.2.2.2.1, (r.2.2.2.2.2.2.2.2.2.2.2.2.2.2.2.2.2.2.2.2.1, (r.2.2.2.2.2.2.2.2.2.2.2.2.2.2.2.2.2.2.2.2.2.1, (r.2.2.2.2.2.2.2.2.2.2.2.2.2.2.2.2.2.2.2.2.2.2.1, (r.2.2.2.2.2.2.2.1, (r.2.2.2.2.2.2.2.2.2.2.2.2.2.2.2.2.2.2.2.2.2.2.2.1, (r.2.2.2.2.2.2.2.2.2.1, (r.2.2.2.2.2.2.2.2.2.2.2.2.2.2.2.1, ()))))))))))))))))))))))))
theorem wKnownO_le {a0 : Int} {a1 : Int} {a2 : Int} {a3 : Int} {a4 : Int} {a5 : Int} {a6 : Int} {a7 : Int} {a8 : Int} {a9 : Int} {a10 : (List TRule)} {a11 : Bool} {a12 : (List TTalk)} {a13 : Int} {a14 : Int} {a15 : Int} {a16 : Int} {a17 : Int} {a18 : (List TMap)} {a19 : Int} {a20 : Int} {a21 : Int} {a22 : Int} {a23 : Int} {a24 : (List UInt8)} {a25 : Int} {a26 : (List TMeter)} : ∀ r, wKnown_fn (a0, (a1, (a2, (a3, (a4, (a5, (a6, (a7, (a8, (a9, (a10, (a11, (a12, (a13, (a14, (a15, (a16, (a17, (a18, (a19, (a20, (a21, (a22, (a23, (a24, (a25, (a26, ()))))))))))))))))))))))))))) = some r -> wKnownO_fn (a0, (a1, (a2, (a3, (a4, (a5, (a6, (a7, (a8, (a9, (a11, (a13, (a14, (a15, (a16, (a17, (a19, (a20, (a21, (a22, (a23, (a24, (a25, (a10, (a26, (a12, (a18, ()))))))))))))))))))))))))))) = some (wKnownO_q r) :=
 show Le wKnownO_q (wKnownO_tree (a0, (a1, (a2, (a3, (a4, (a5, (a6, (a7, (a8, (a9, (a11, (a13, (a14, (a15, (a16, (a17, (a19, (a20, (a21, (a22, (a23, (a24, (a25, (a10, (a26, (a12, (a18, ())))))))))))))))))))))))))))) (wKnown_tree (a0, (a1, (a2, (a3, (a4, (a5, (a6, (a7, (a8, (a9, (a10, (a11, (a12, (a13, (a14, (a15, (a16, (a17, (a18, (a19, (a20, (a21, (a22, (a23, (a24, (a25, (a26, ())))))))))))))))))))))))))))) from
 (l_o fun _ => (l_4 (l_R (l_r rfl))))
abbrev hsHearO_q (r : (Int × (Int × (Int × (Int × (Int × (Int × ((List TRule) × (Bool × ((List TMeter) × ((List TTalk) × (Int × (Int × (Int × (Int × (Int × ((List TMap) × ((List UInt8) × (Int × (Int × Unit)))))))))))))))))))) : (Int × (Int × (Int × (Int × (Int × (Int × (Bool × (Int × (Int × (Int × (Int × (Int × ((List UInt8) × (Int × (Int × ((List TRule) × ((List TMeter) × ((List TTalk) × ((List TMap) × Unit))))))))))))))))))) := (r.1, (r.2.1, (r.2.2.1, (r.2.2.2.1, (r.2.2.2.2.1, (r.2.2.2.2.2.1, (r.2.2.2.2.2.2.2.1, (r.2.2.2.2.2.2.2.2.2.2.1, (r.2.2.2.2.2.2.2.2.2.2.2.1, (r.2.2.2.2.2.2.2.2.2.2.2.2.1, (r.2.2.2.2.2.2.2.2.2.2.2.2.2.1, (r.2.2.2.2.2.2.2.2.2.2.2.2.2.2.1, (r.2.2.2.2.2.2.2.2.2.2.2.2.2.2.2.2.1, (r.2.2.2.2.2.2.2.2.2.2.2.2.2.2.2.2.2.1, (r.2.2.2.2.2.2.2.2.2.2.2.2.2.2.2.2.2.2.1, (r.2.2.2.2.2.2.1, (r.2.2.2.2.2.2.2.2.1, (r.2.2.2.2.2.2.2.2.2.1, (r.2.2.2.2.2.2.2.2.2.2.2.2.2.2.2.1, ())))))))))))))))))))
theorem hsHearO_le {a0 : Int} {a1 : Int} {a2 : Int} {a3 : Int} {a4 : Int} {a5 : Int} {a6 : (List TRule)} {a7 : Bool} {a8 : (List TMeter)} {a9 : (List TTalk)} {a10 : Int} {a11 : Int} {a12 : Int} {a13 : Int} {a14 : Int} {a15 : (List TMap)} {a16 : Bool} {a17 : (List UInt8)} {a18 : Int} : ∀ r, hsHear_fn (a0, (a1, (a2, (a3, (a4, (a5, (a6, (a7, (a8, (a9, (a10, (a11, (a12, (a13, (a14, (a15, (a16, (a17, (a18, ()))))))))))))))))))) = some r -> hsHearO_fn (a0, (a1, (a2, (a3, (a4, (a5, (a6, (a7, (a8, (a9, (a10, (a11, (a12, (a13, (a14, (a15, (a16, (a17, (a18, ()))))))))))))))))))) = some (hsHearO_q r) :=
 show Le hsHearO_q (hsHearO_tree (a0, (a1, (a2, (a3, (a4, (a5, (a6, (a7, (a8, (a9, (a10, (a11, (a12, (a13, (a14, (a15, (a16, (a17, (a18, ())))))))))))))))))))) (hsHear_tree (a0, (a1, (a2, (a3, (a4, (a5, (a6, (a7, (a8, (a9, (a10, (a11, (a12, (a13, (a14, (a15, (a16, (a17, (a18, ())))))))))))))))))))) from
 (l_g (l_g (l_g (l_g (l_o fun _ => (l_i (l_4 (l_r rfl))
 (l_o fun _ => (l_i (l_4 (l_r rfl))
 (l_i (l_4 (l_r rfl))
 (l_R (l_in (t0 := wGoes_tree _) rfl (l_o fun _ => (l_i (l_4 (l_R (l_r rfl)))
 (l_i (l_i (l_4 (l_R (l_r rfl)))
 (l_o fun _ => (l_i (l_4 (l_R (l_r rfl)))
 (l_4 (l_R (l_m wMeasuredO_le fun _ => (l_i (l_4 (l_R (l_r rfl)))
 (l_i (l_R (l_in (t0 := wLeaves_tree _) rfl (l_i (l_o fun _ => (l_i (l_4 (l_R (l_R (l_r rfl))))
 (l_i (l_R (l_in (t0 := wTalked_tree _) rfl (l_o fun _ => (l_o fun _ => (l_m trHearO_le fun _ => (l_i (l_i (l_R (l_i (l_4 (l_R (l_R (l_r rfl))))
 (l_m natOutO_le fun _ => (l_i (l_4 (l_R (l_R (l_r rfl))))
 (l_o fun _ => (l_4 (l_R (l_R (l_r rfl)))))))))
 (l_R (l_i (l_4 (l_R (l_R (l_r rfl))))
 (l_m natOutO_le fun _ => (l_i (l_4 (l_R (l_R (l_r rfl))))
 (l_o fun _ => (l_4 (l_R (l_R (l_r rfl))))))))))
 (l_i (l_R (l_i (l_4 (l_R (l_R (l_r rfl))))
 (l_m natOutO_le fun _ => (l_i (l_4 (l_R (l_R (l_r rfl))))
 (l_o fun _ => (l_4 (l_R (l_R (l_r rfl)))))))))
 (l_R (l_i (l_4 (l_R (l_R (l_r rfl))))
 (l_m natOutO_le fun _ => (l_i (l_4 (l_R (l_R (l_r rfl))))
 (l_o fun _ => (l_4 (l_R (l_R (l_r rfl))))))))))))))))
 (l_m natOutO_le fun _ => (l_i (l_4 (l_R (l_R (l_r rfl))))
 (l_o fun _ => (l_4 (l_R (l_R (l_r rfl))))))))))
 (l_4 (l_R (l_m wKnownO_le fun _ => (l_i (l_o fun _ => (l_i (l_4 (l_R (l_R (l_r rfl))))
 (l_i (l_R (l_in (t0 := wTalked_tree _) rfl (l_o fun _ => (l_o fun _ => (l_m trHearO_le fun _ => (l_i (l_i (l_R (l_i (l_4 (l_R (l_R (l_r rfl))))
 (l_m natOutO_le fun _ => (l_i (l_4 (l_R (l_R (l_r rfl))))
 (l_o fun _ => (l_4 (l_R (l_R (l_r rfl)))))))))
 (l_R (l_i (l_4 (l_R (l_R (l_r rfl))))
 (l_m natOutO_le fun _ => (l_i (l_4 (l_R (l_R (l_r rfl))))
 (l_o fun _ => (l_4 (l_R (l_R (l_r rfl))))))))))
 (l_i (l_R (l_i (l_4 (l_R (l_R (l_r rfl))))
 (l_m natOutO_le fun _ => (l_i (l_4 (l_R (l_R (l_r rfl))))
 (l_o fun _ => (l_4 (l_R (l_R (l_r rfl)))))))))
 (l_R (l_i (l_4 (l_R (l_R (l_r rfl))))
 (l_m natOutO_le fun _ => (l_i (l_4 (l_R (l_R (l_r rfl))))
 (l_o fun _ => (l_4 (l_R (l_R (l_r rfl))))))))))))))))
 (l_m natOutO_le fun _ => (l_i (l_4 (l_R (l_R (l_r rfl))))
 (l_o fun _ => (l_4 (l_R (l_R (l_r rfl))))))))))
 (l_i (l_R (l_in (t0 := wTalked_tree _) rfl (l_o fun _ => (l_o fun _ => (l_m trHearO_le fun _ => (l_i (l_i (l_R (l_i (l_4 (l_R (l_R (l_r rfl))))
 (l_m natOutO_le fun _ => (l_i (l_4 (l_R (l_R (l_r rfl))))
 (l_o fun _ => (l_4 (l_R (l_R (l_r rfl)))))))))
 (l_R (l_i (l_4 (l_R (l_R (l_r rfl))))
 (l_m natOutO_le fun _ => (l_i (l_4 (l_R (l_R (l_r rfl))))
 (l_o fun _ => (l_4 (l_R (l_R (l_r rfl))))))))))
 (l_i (l_R (l_i (l_4 (l_R (l_R (l_r rfl))))
 (l_m natOutO_le fun _ => (l_i (l_4 (l_R (l_R (l_r rfl))))
 (l_o fun _ => (l_4 (l_R (l_R (l_r rfl)))))))))
 (l_R (l_i (l_4 (l_R (l_R (l_r rfl))))
 (l_m natOutO_le fun _ => (l_i (l_4 (l_R (l_R (l_r rfl))))
 (l_o fun _ => (l_4 (l_R (l_R (l_r rfl))))))))))))))))
 (l_m natOutO_le fun _ => (l_i (l_4 (l_R (l_R (l_r rfl))))
 (l_o fun _ => (l_4 (l_R (l_R (l_r rfl)))))))))))))))
 (l_R (l_in (t0 := wEnters_tree _) rfl (l_o fun _ => (l_i (l_4 (l_R (l_R (l_r rfl))))
 (l_i (l_4 (l_R (l_m wKnownO_le fun _ => (l_i (l_4 (l_R (l_R (l_r rfl))))
 (l_R (l_in (t0 := wTalked_tree _) rfl (l_o fun _ => (l_o fun _ => (l_m trHearO_le fun _ => (l_i (l_i (l_R (l_i (l_4 (l_R (l_R (l_r rfl))))
 (l_o fun _ => (l_4 (l_R (l_R (l_r rfl)))))))
 (l_R (l_i (l_4 (l_R (l_R (l_r rfl))))
 (l_o fun _ => (l_4 (l_R (l_R (l_r rfl))))))))
 (l_i (l_R (l_i (l_4 (l_R (l_R (l_r rfl))))
 (l_o fun _ => (l_4 (l_R (l_R (l_r rfl)))))))
 (l_R (l_i (l_4 (l_R (l_R (l_r rfl))))
 (l_o fun _ => (l_4 (l_R (l_R (l_r rfl))))))))))))))))))
 (l_o fun _ => (l_4 (l_R (l_R (l_r rfl))))))))))))))))))
 (l_o fun _ => (l_i (l_4 (l_R (l_r rfl)))
 (l_4 (l_R (l_m wMeasuredO_le fun _ => (l_i (l_4 (l_R (l_r rfl)))
 (l_i (l_R (l_in (t0 := wLeaves_tree _) rfl (l_i (l_o fun _ => (l_i (l_4 (l_R (l_R (l_r rfl))))
 (l_i (l_R (l_in (t0 := wTalked_tree _) rfl (l_o fun _ => (l_o fun _ => (l_m trHearO_le fun _ => (l_i (l_i (l_R (l_i (l_4 (l_R (l_R (l_r rfl))))
 (l_m natOutO_le fun _ => (l_i (l_4 (l_R (l_R (l_r rfl))))
 (l_o fun _ => (l_4 (l_R (l_R (l_r rfl)))))))))
 (l_R (l_i (l_4 (l_R (l_R (l_r rfl))))
 (l_m natOutO_le fun _ => (l_i (l_4 (l_R (l_R (l_r rfl))))
 (l_o fun _ => (l_4 (l_R (l_R (l_r rfl))))))))))
 (l_i (l_R (l_i (l_4 (l_R (l_R (l_r rfl))))
 (l_m natOutO_le fun _ => (l_i (l_4 (l_R (l_R (l_r rfl))))
 (l_o fun _ => (l_4 (l_R (l_R (l_r rfl)))))))))
 (l_R (l_i (l_4 (l_R (l_R (l_r rfl))))
 (l_m natOutO_le fun _ => (l_i (l_4 (l_R (l_R (l_r rfl))))
 (l_o fun _ => (l_4 (l_R (l_R (l_r rfl))))))))))))))))
 (l_m natOutO_le fun _ => (l_i (l_4 (l_R (l_R (l_r rfl))))
 (l_o fun _ => (l_4 (l_R (l_R (l_r rfl))))))))))
 (l_4 (l_R (l_m wKnownO_le fun _ => (l_i (l_o fun _ => (l_i (l_4 (l_R (l_R (l_r rfl))))
 (l_i (l_R (l_in (t0 := wTalked_tree _) rfl (l_o fun _ => (l_o fun _ => (l_m trHearO_le fun _ => (l_i (l_i (l_R (l_i (l_4 (l_R (l_R (l_r rfl))))
 (l_m natOutO_le fun _ => (l_i (l_4 (l_R (l_R (l_r rfl))))
 (l_o fun _ => (l_4 (l_R (l_R (l_r rfl)))))))))
 (l_R (l_i (l_4 (l_R (l_R (l_r rfl))))
 (l_m natOutO_le fun _ => (l_i (l_4 (l_R (l_R (l_r rfl))))
 (l_o fun _ => (l_4 (l_R (l_R (l_r rfl))))))))))
 (l_i (l_R (l_i (l_4 (l_R (l_R (l_r rfl))))
 (l_m natOutO_le fun _ => (l_i (l_4 (l_R (l_R (l_r rfl))))
 (l_o fun _ => (l_4 (l_R (l_R (l_r rfl)))))))))
 (l_R (l_i (l_4 (l_R (l_R (l_r rfl))))
 (l_m natOutO_le fun _ => (l_i (l_4 (l_R (l_R (l_r rfl))))
 (l_o fun _ => (l_4 (l_R (l_R (l_r rfl))))))))))))))))
 (l_m natOutO_le fun _ => (l_i (l_4 (l_R (l_R (l_r rfl))))
 (l_o fun _ => (l_4 (l_R (l_R (l_r rfl))))))))))
 (l_i (l_R (l_in (t0 := wTalked_tree _) rfl (l_o fun _ => (l_o fun _ => (l_m trHearO_le fun _ => (l_i (l_i (l_R (l_i (l_4 (l_R (l_R (l_r rfl))))
 (l_m natOutO_le fun _ => (l_i (l_4 (l_R (l_R (l_r rfl))))
 (l_o fun _ => (l_4 (l_R (l_R (l_r rfl)))))))))
 (l_R (l_i (l_4 (l_R (l_R (l_r rfl))))
 (l_m natOutO_le fun _ => (l_i (l_4 (l_R (l_R (l_r rfl))))
 (l_o fun _ => (l_4 (l_R (l_R (l_r rfl))))))))))
 (l_i (l_R (l_i (l_4 (l_R (l_R (l_r rfl))))
 (l_m natOutO_le fun _ => (l_i (l_4 (l_R (l_R (l_r rfl))))
 (l_o fun _ => (l_4 (l_R (l_R (l_r rfl)))))))))
 (l_R (l_i (l_4 (l_R (l_R (l_r rfl))))
 (l_m natOutO_le fun _ => (l_i (l_4 (l_R (l_R (l_r rfl))))
 (l_o fun _ => (l_4 (l_R (l_R (l_r rfl))))))))))))))))
 (l_m natOutO_le fun _ => (l_i (l_4 (l_R (l_R (l_r rfl))))
 (l_o fun _ => (l_4 (l_R (l_R (l_r rfl)))))))))))))))
 (l_R (l_in (t0 := wEnters_tree _) rfl (l_o fun _ => (l_i (l_4 (l_R (l_R (l_r rfl))))
 (l_i (l_4 (l_R (l_m wKnownO_le fun _ => (l_i (l_4 (l_R (l_R (l_r rfl))))
 (l_R (l_in (t0 := wTalked_tree _) rfl (l_o fun _ => (l_o fun _ => (l_m trHearO_le fun _ => (l_i (l_i (l_R (l_i (l_4 (l_R (l_R (l_r rfl))))
 (l_o fun _ => (l_4 (l_R (l_R (l_r rfl)))))))
 (l_R (l_i (l_4 (l_R (l_R (l_r rfl))))
 (l_o fun _ => (l_4 (l_R (l_R (l_r rfl))))))))
 (l_i (l_R (l_i (l_4 (l_R (l_R (l_r rfl))))
 (l_o fun _ => (l_4 (l_R (l_R (l_r rfl)))))))
 (l_R (l_i (l_4 (l_R (l_R (l_r rfl))))
 (l_o fun _ => (l_4 (l_R (l_R (l_r rfl))))))))))))))))))
 (l_o fun _ => (l_4 (l_R (l_R (l_r rfl)))))))))))))))))))))))))))))))
end Go.Proofs.YthkhikdglmaiaaaGreatDoor.X
namespace Go.Proofs.YthkhikdglmaiaaaGreatDoor.X
open Go Go.RowKit Go.Proofs.YthkhikdglmaiaaaGreatDoor.Abs
open Go.IntKind renaming wrap -> wW
set_option maxRecDepth 100000
set_option linter.unusedVariables false
theorem cdMeter_h1 (xs : List (τ 19)) : (bodyTr Go.Proofs.Tryz.prog cod 13 [.one (.nn (.st 19 xs))]).eval = (cloneRes 59 19 40 xs).eval := by kernel_rfl
theorem cdMeter_h2 : (bodyTr Go.Proofs.Tryz.prog cod 13 [.one .nil]).eval = some (.one .nil, []) := by kernel_rfl
def cdMeter : PF Go.Proofs.Tryz.prog := dataPF (clonePF Go.Proofs.Tryz.prog cod 13 59 19 40 cdMeter_h1 cdMeter_h2)
def eqRule_L17_4 : LS := ⟨4, [], ⟨26, [(13, .v (.one (.i .i64))), (1, .v (.one (.st 10 false))), (0, .v (.one (.st 10 false))), (12, .v (.one (.i .i64)))], []⟩, [⟨none, [], ⟨26, [(4, .v (.one (.b)))], []⟩⟩, ⟨some 0, [], ⟨26, [], []⟩⟩], []⟩
def eqRule_step17_4 : (Int × ((List TRule) × ((List TRule) × (Int × Unit)))) -> Tr ((Int × ((List TRule) × ((List TRule) × (Int × Unit)))) ⊕ ((Bool × Unit) ⊕ Unit)) :=
 fun (a0, a1, a2, a3, _) =>
 .ite (decide (a0 < a3)) (
 .grd (decide (0 <= a0)) (
 .opt (a2[Int.toNat a0]?) (fun r0 =>
 .grd (decide (0 <= a0)) (
 .opt (a1[Int.toNat a0]?) (fun r1 =>
 .ite (!(decide (r0.fromAddr = r1.fromAddr) && (decide (r0.fromLong = r1.fromLong) && true) && (decide (r0.toAddr = r1.toAddr) && (decide (r0.toLong = r1.toLong) && true) && (decide (r0.proto = r1.proto) && (decide (r0.fromLow = r1.fromLow) && (decide (r0.fromHigh = r1.fromHigh) && (decide (r0.toLow = r1.toLow) && (decide (r0.toHigh = r1.toHigh) && (r0.pass == r1.pass && true))))))))) (
 .ret (Sum.inr (Sum.inl (false, ())))) (
 .ret (Sum.inl (wW .i64 (a0 + 1), (a1, (a2, (a3, ()))))))))))) (
 .ret (Sum.inr (Sum.inr ())))
def eqRule_loop17_4 (x : (Int × ((List TRule) × ((List TRule) × (Int × Unit))))) : Option ((Bool × Unit) ⊕ Unit) := loopO 170004 (fun x => (eqRule_step17_4 x).eval) 18446744073709551616 x
def eqRule_ap : List VP1 := [.one (.st 10 false), .one (.st 10 false)]
def eqRule_rp : SP := ⟨1, [(0, .v (.one (.b)))], []⟩
def eqRule_tree : ((List TRule) × ((List TRule) × Unit)) -> Tr (Bool × Unit) :=
 fun (a0, a1, _) =>
 .ite (!decide ((↑(a0.length) : Int) = (↑(a1.length) : Int))) (
 .ret (false, ())) (
 .opt ((eqRule_loop17_4 (0, (a1, (a0, ((↑(a0.length) : Int), ())))))) (fun r0 =>
 .sum (r0) (fun r1 =>
 .ret (r1.1, ())) (fun r1 =>
 .ret (true, ()))))
noncomputable def gm70 : List (PF Go.Proofs.Tryz.prog) := gm63 ++ [GS.pf delTalk, FS.pf trTurned, FS.pf trPort, FS.pf trRoad, FS.pf trForm, FS.pf trPlace, FS.pf trCheck, FS.pf trOld, GS.pf dfTalk, GS.pf trOpen, GS.pf trPasses, FS.pf trFind, FS.pf buCheck, FS.pf buLev, FS.pf buTake, FS.pf ruNet, FS.pf ruHas, FS.pf ruBounds, FS.pf ruRight, FS.pf ruCheck, FS.pf ruMeets, FS.pf ruDecide, tz64, FS.pf portsCheck, FS.pf portsLet, FS.pf portsEnd, FS.pf confCheck, GS.pf delMap, FS.pf eqMap, FS.pf natWithin, FS.pf natCheck, natPlace, GS.pf natExpire, FS.pf natIn, GS.pf delMeter, FS.pf hsMeter, FS.pf hsLast, FS.pf hsCheck, FS.pf hsNew, FS.pf kHouseLives, GS.pf trHearO, GS.pf natOutO, GS.pf wMeasuredO, GS.pf wKnownO, wTalkedM, wLeavesM, wEntersM, wGoesM, GS.pf hsHearO, cdRule, cdTalk, cdMap, cdMeter]
theorem eqRule_eq (x : ((List TRule) × ((List TRule) × Unit))) : fnTr Tryz.prog cod gm70 [(17, eqRule_L17_4)] 30 17 eqRule_ap eqRule_rp x = eqRule_tree x := by kernel_rfl
def eqRule_fn (x : ((List TRule) × ((List TRule) × Unit))) : Option (Bool × Unit) := (eqRule_tree x).eval
def eqRule : FS Tryz.prog := ⟨17, eqRule_ap, eqRule_rp, eqRule_fn, fun x r h => fnTr_sound (cod := cod) (Γ := gm70) (Λs := [(17, eqRule_L17_4)]) (n := 30) ((congrArg Tr.eval (eqRule_eq x)).trans h)⟩
def eqMeter_L18_4 : LS := ⟨4, [], ⟨26, [(13, .v (.one (.i .i64))), (1, .v (.one (.st 19 false))), (0, .v (.one (.st 19 false))), (12, .v (.one (.i .i64)))], []⟩, [⟨none, [], ⟨26, [(4, .v (.one (.b)))], []⟩⟩, ⟨some 0, [], ⟨26, [], []⟩⟩], []⟩
def eqMeter_step18_4 : (Int × ((List TMeter) × ((List TMeter) × (Int × Unit)))) -> Tr ((Int × ((List TMeter) × ((List TMeter) × (Int × Unit)))) ⊕ ((Bool × Unit) ⊕ Unit)) :=
 fun (a0, a1, a2, a3, _) =>
 .ite (decide (a0 < a3)) (
 .grd (decide (0 <= a0)) (
 .opt (a2[Int.toNat a0]?) (fun r0 =>
 .grd (decide (0 <= a0)) (
 .opt (a1[Int.toNat a0]?) (fun r1 =>
 .ite (!(decide (r0.addr = r1.addr) && (decide (r0.rate = r1.rate) && (decide (r0.most = r1.most) && (decide (r0.has = r1.has) && (decide (r0.at' = r1.at') && true))) && true))) (
 .ret (Sum.inr (Sum.inl (false, ())))) (
 .ret (Sum.inl (wW .i64 (a0 + 1), (a1, (a2, (a3, ()))))))))))) (
 .ret (Sum.inr (Sum.inr ())))
def eqMeter_loop18_4 (x : (Int × ((List TMeter) × ((List TMeter) × (Int × Unit))))) : Option ((Bool × Unit) ⊕ Unit) := loopO 180004 (fun x => (eqMeter_step18_4 x).eval) 18446744073709551616 x
def eqMeter_ap : List VP1 := [.one (.st 19 false), .one (.st 19 false)]
def eqMeter_rp : SP := ⟨1, [(0, .v (.one (.b)))], []⟩
def eqMeter_tree : ((List TMeter) × ((List TMeter) × Unit)) -> Tr (Bool × Unit) :=
 fun (a0, a1, _) =>
 .ite (!decide ((↑(a0.length) : Int) = (↑(a1.length) : Int))) (
 .ret (false, ())) (
 .opt ((eqMeter_loop18_4 (0, (a1, (a0, ((↑(a0.length) : Int), ())))))) (fun r0 =>
 .sum (r0) (fun r1 =>
 .ret (r1.1, ())) (fun r1 =>
 .ret (true, ()))))
noncomputable def gm71 : List (PF Go.Proofs.Tryz.prog) := gm70 ++ [FS.pf eqRule]
theorem eqMeter_eq (x : ((List TMeter) × ((List TMeter) × Unit))) : fnTr Tryz.prog cod gm71 [(18, eqMeter_L18_4)] 30 18 eqMeter_ap eqMeter_rp x = eqMeter_tree x := by kernel_rfl
def eqMeter_fn (x : ((List TMeter) × ((List TMeter) × Unit))) : Option (Bool × Unit) := (eqMeter_tree x).eval
def eqMeter : FS Tryz.prog := ⟨18, eqMeter_ap, eqMeter_rp, eqMeter_fn, fun x r h => fnTr_sound (cod := cod) (Γ := gm71) (Λs := [(18, eqMeter_L18_4)]) (n := 30) ((congrArg Tr.eval (eqMeter_eq x)).trans h)⟩
def eqTalk_L19_4 : LS := ⟨4, [], ⟨26, [(13, .v (.one (.i .i64))), (1, .v (.one (.st 16 false))), (0, .v (.one (.st 16 false))), (12, .v (.one (.i .i64)))], []⟩, [⟨none, [], ⟨26, [(4, .v (.one (.b)))], []⟩⟩, ⟨some 0, [], ⟨26, [], []⟩⟩], []⟩
def eqTalk_step19_4 : (Int × ((List TTalk) × ((List TTalk) × (Int × Unit)))) -> Tr ((Int × ((List TTalk) × ((List TTalk) × (Int × Unit)))) ⊕ ((Bool × Unit) ⊕ Unit)) :=
 fun (a0, a1, a2, a3, _) =>
 .ite (decide (a0 < a3)) (
 .grd (decide (0 <= a0)) (
 .opt (a2[Int.toNat a0]?) (fun r0 =>
 .grd (decide (0 <= a0)) (
 .opt (a1[Int.toNat a0]?) (fun r1 =>
 .ite (!(decide (r0.from' = r1.from') && (decide (r0.to = r1.to) && (decide (r0.fromPort = r1.fromPort) && (decide (r0.toPort = r1.toPort) && true))) && (decide (r0.state = r1.state) && (decide (r0.over = r1.over) && (decide (r0.at' = r1.at') && true))))) (
 .ret (Sum.inr (Sum.inl (false, ())))) (
 .ret (Sum.inl (wW .i64 (a0 + 1), (a1, (a2, (a3, ()))))))))))) (
 .ret (Sum.inr (Sum.inr ())))
def eqTalk_loop19_4 (x : (Int × ((List TTalk) × ((List TTalk) × (Int × Unit))))) : Option ((Bool × Unit) ⊕ Unit) := loopO 190004 (fun x => (eqTalk_step19_4 x).eval) 18446744073709551616 x
def eqTalk_ap : List VP1 := [.one (.st 16 false), .one (.st 16 false)]
def eqTalk_rp : SP := ⟨1, [(0, .v (.one (.b)))], []⟩
def eqTalk_tree : ((List TTalk) × ((List TTalk) × Unit)) -> Tr (Bool × Unit) :=
 fun (a0, a1, _) =>
 .ite (!decide ((↑(a0.length) : Int) = (↑(a1.length) : Int))) (
 .ret (false, ())) (
 .opt ((eqTalk_loop19_4 (0, (a1, (a0, ((↑(a0.length) : Int), ())))))) (fun r0 =>
 .sum (r0) (fun r1 =>
 .ret (r1.1, ())) (fun r1 =>
 .ret (true, ()))))
noncomputable def gm72 : List (PF Go.Proofs.Tryz.prog) := gm71 ++ [FS.pf eqMeter]
theorem eqTalk_eq (x : ((List TTalk) × ((List TTalk) × Unit))) : fnTr Tryz.prog cod gm72 [(19, eqTalk_L19_4)] 30 19 eqTalk_ap eqTalk_rp x = eqTalk_tree x := by kernel_rfl
def eqTalk_fn (x : ((List TTalk) × ((List TTalk) × Unit))) : Option (Bool × Unit) := (eqTalk_tree x).eval
def eqTalk : FS Tryz.prog := ⟨19, eqTalk_ap, eqTalk_rp, eqTalk_fn, fun x r h => fnTr_sound (cod := cod) (Γ := gm72) (Λs := [(19, eqTalk_L19_4)]) (n := 30) ((congrArg Tr.eval (eqTalk_eq x)).trans h)⟩
def kHouseOwn_L4_21 : LS := ⟨21, [(14, 14), (4, 4), (9, 9), (10, 10), (11, 11), (12, 12), (44000, 44000), (44001, 44001), (44002, 44002), (44003, 44003)], ⟨126, [(104, .v (.one (.i .i64))), (14, .v (.one (.ptr 14 0))), (13, .v (.one (.clp 16 [(4, 0), (9, 0), (10, 0), (11, 0), (12, 0)]))), (18, .v (.one (.b))), (103, .v (.one (.i .i64)))], [(14, .cells [.i .u32, .i .i64, .i .i64, .i .i64, .i .i64, .i .i64, .own 44000, .b, .own 44001, .own 44002, .i .i64, .i .i64, .i .u64, .i .i64, .i .u64, .own 44003]), (4, .cells [.i .u32, .i .i64, .i .i64, .i .i64, .i .i64, .i .i64, .st 10 false, .b, .st 19 false, .st 16 false, .i .i64, .i .i64, .i .u64, .i .i64, .i .u64, .st 17 false]), (9, .cells [.st 10 false]), (10, .cells [.st 19 false]), (11, .cells [.st 16 false]), (12, .cells [.st 17 false]), (44000, .row 54 10 true true), (44001, .row 59 19 true true), (44002, .row 64 16 true true), (44003, .row 67 17 true true)]⟩, [⟨some 6, [(4, 4), (9, 9), (10, 10), (11, 11), (12, 12)], ⟨126, [(13, .v (.one (.clp 16 [(4, 0), (9, 0), (10, 0), (11, 0), (12, 0)]))), (18, .v (.one (.b)))], [(4, .cells [.i .u32, .i .i64, .i .i64, .i .i64, .i .i64, .i .i64, .st 10 false, .b, .st 19 false, .st 16 false, .i .i64, .i .i64, .i .u64, .i .i64, .i .u64, .st 17 false]), (9, .cells [.st 10 false]), (10, .cells [.st 19 false]), (11, .cells [.st 16 false]), (12, .cells [.st 17 false])]⟩⟩], []⟩
abbrev ty29_ : Type := (Int × (Bool × (Int × (Int × (Int × (Int × (Int × (Int × (Int × (Bool × (Int × (Int × (Int × (Int × (Int × (Int × (Int × (Int × (Int × (Int × (Int × ((List TRule) × (Bool × ((List TMeter) × ((List TTalk) × (Int × (Int × (Int × (Int × (Int × ((List TMap) × ((List TRule) × ((List TMeter) × ((List TTalk) × ((List TMap) × ((List TRule) × ((List TMeter) × ((List TTalk) × ((List TMap) × Unit)))))))))))))))))))))))))))))))))))))))
abbrev ty30_ : Type := (Bool × (Int × (Int × (Int × (Int × (Int × (Int × ((List TRule) × (Bool × ((List TMeter) × ((List TTalk) × (Int × (Int × (Int × (Int × (Int × ((List TMap) × ((List TRule) × ((List TMeter) × ((List TTalk) × ((List TMap) × Unit)))))))))))))))))))))
def kHouseOwn_step4_21 : ty29_ -> Tr (ty29_ ⊕ ty30_) :=
 fun (a0, a1, a2, a3, a4, a5, a6, a7, a8, a9, a10, a11, a12, a13, a14, a15, a16, a17, a18, a19, a20, a21, a22, a23, a24, a25, a26, a27, a28, a29, a30, a31, a32, a33, a34, a35, a36, a37, a38, _) =>
 .ite (decide (a0 < a2)) (
 .grd (decide (0 <= a0 /\ a0 < (↑(a38.length) : Int))) (
 .opt (a38[Int.toNat a0]?) (fun r0 =>
 .grd (decide (0 <= a0 /\ a0 < (↑(a38.length) : Int))) (
 .opt (a38[Int.toNat a0]?) (fun r1 =>
 gd a35.length (
 gd a36.length (
 gd a37.length (
 .grd (decide (a38.length = List.length (List.set a38 (Int.toNat a0) (TMap.mk r1.proto r1.addr r1.port r1.out (wW .i64 (r0.at' + 1)))))) (
 .ret (Sum.inl (wW .i64 (a0 + 1), (a1, (a2, (a3, (a4, (a5, (a6, (a7, (a8, (a9, (a10, (a11, (a12, (a13, (a14, (a15, (a16, (a17, (a18, (a19, (a20, (a21, (a22, (a23, (a24, (a25, (a26, (a27, (a28, (a29, (a30, (a31, (a32, (a33, (a34, (a35, (a36, (a37, (List.set a38 (Int.toNat a0) (TMap.mk r1.proto r1.addr r1.port r1.out (wW .i64 (r0.at' + 1))), ()))))))))))))))))))))))))))))))))))))))))))))))))) (
 .ret (Sum.inr (a1, (a15, (a16, (a17, (a18, (a19, (a20, (a21, (a22, (a23, (a24, (a25, (a26, (a27, (a28, (a29, (a30, (a31, (a32, (a33, (a34, ())))))))))))))))))))))))
def kHouseOwn_loop4_21 (x : ty29_) : Option ty30_ := loopO 40021 (fun x => (kHouseOwn_step4_21 x).eval) 18446744073709551616 x
def kHouseOwn_L4_16 : LS := ⟨16, [(14, 14), (4, 4), (9, 9), (10, 10), (11, 11), (12, 12), (44000, 44000), (44001, 44001), (44002, 44002), (44003, 44003)], ⟨126, [(87, .v (.one (.i .i64))), (14, .v (.one (.ptr 14 0))), (13, .v (.one (.clp 16 [(4, 0), (9, 0), (10, 0), (11, 0), (12, 0)]))), (18, .v (.one (.b))), (86, .v (.one (.i .i64)))], [(14, .cells [.i .u32, .i .i64, .i .i64, .i .i64, .i .i64, .i .i64, .own 44000, .b, .own 44001, .own 44002, .i .i64, .i .i64, .i .u64, .i .i64, .i .u64, .own 44003]), (4, .cells [.i .u32, .i .i64, .i .i64, .i .i64, .i .i64, .i .i64, .st 10 false, .b, .st 19 false, .st 16 false, .i .i64, .i .i64, .i .u64, .i .i64, .i .u64, .st 17 false]), (9, .cells [.st 10 false]), (10, .cells [.st 19 false]), (11, .cells [.st 16 false]), (12, .cells [.st 17 false]), (44000, .row 54 10 true true), (44001, .row 59 19 true true), (44002, .row 64 16 true true), (44003, .row 67 17 true true)]⟩, [⟨some 4, [(14, 14), (4, 4), (9, 9), (10, 10), (11, 11), (12, 12), (44000, 44000), (44001, 44001), (44002, 44002), (44003, 44003)], ⟨126, [(14, .v (.one (.ptr 14 0))), (13, .v (.one (.clp 16 [(4, 0), (9, 0), (10, 0), (11, 0), (12, 0)]))), (18, .v (.one (.b)))], [(14, .cells [.i .u32, .i .i64, .i .i64, .i .i64, .i .i64, .i .i64, .own 44000, .b, .own 44001, .own 44002, .i .i64, .i .i64, .i .u64, .i .i64, .i .u64, .own 44003]), (4, .cells [.i .u32, .i .i64, .i .i64, .i .i64, .i .i64, .i .i64, .st 10 false, .b, .st 19 false, .st 16 false, .i .i64, .i .i64, .i .u64, .i .i64, .i .u64, .st 17 false]), (9, .cells [.st 10 false]), (10, .cells [.st 19 false]), (11, .cells [.st 16 false]), (12, .cells [.st 17 false]), (44000, .row 54 10 true true), (44001, .row 59 19 true true), (44002, .row 64 16 true true), (44003, .row 67 17 true true)]⟩⟩], []⟩
abbrev ty31_ : Type := (Bool × (Int × (Int × (Int × (Int × (Int × (Int × (Bool × (Int × (Int × (Int × (Int × (Int × (Int × (Int × (Int × (Int × (Int × (Int × ((List TRule) × (Bool × ((List TMeter) × ((List TTalk) × (Int × (Int × (Int × (Int × (Int × ((List TMap) × ((List TRule) × ((List TMeter) × ((List TTalk) × ((List TMap) × ((List TRule) × ((List TMeter) × ((List TTalk) × ((List TMap) × Unit)))))))))))))))))))))))))))))))))))))
def kHouseOwn_step4_16 : ty29_ -> Tr (ty29_ ⊕ ty31_) :=
 fun (a0, a1, a2, a3, a4, a5, a6, a7, a8, a9, a10, a11, a12, a13, a14, a15, a16, a17, a18, a19, a20, a21, a22, a23, a24, a25, a26, a27, a28, a29, a30, a31, a32, a33, a34, a35, a36, a37, a38, _) =>
 .ite (decide (a0 < a2)) (
 .grd (decide (0 <= a0 /\ a0 < (↑(a37.length) : Int))) (
 .opt (a37[Int.toNat a0]?) (fun r0 =>
 .grd (decide (0 <= a0 /\ a0 < (↑(a37.length) : Int))) (
 .opt (a37[Int.toNat a0]?) (fun r1 =>
 gd a35.length (
 gd a36.length (
 .grd (decide (a37.length = List.length (List.set a37 (Int.toNat a0) (TTalk.mk r1.from' r1.to r1.fromPort r1.toPort r1.state r1.over (wW .i64 (r0.at' + 1)))))) (
 gd a38.length (
 .ret (Sum.inl (wW .i64 (a0 + 1), (a1, (a2, (a3, (a4, (a5, (a6, (a7, (a8, (a9, (a10, (a11, (a12, (a13, (a14, (a15, (a16, (a17, (a18, (a19, (a20, (a21, (a22, (a23, (a24, (a25, (a26, (a27, (a28, (a29, (a30, (a31, (a32, (a33, (a34, (a35, (a36, (List.set a37 (Int.toNat a0) (TTalk.mk r1.from' r1.to r1.fromPort r1.toPort r1.state r1.over (wW .i64 (r0.at' + 1))), (a38, ()))))))))))))))))))))))))))))))))))))))))))))))))) (
 gd a35.length (
 gd a36.length (
 gd a37.length (
 gd a38.length (
 .ret (Sum.inr (a1, (a3, (a4, (a5, (a6, (a7, (a8, (a9, (a10, (a11, (a12, (a13, (a14, (a15, (a16, (a17, (a18, (a19, (a20, (a21, (a22, (a23, (a24, (a25, (a26, (a27, (a28, (a29, (a30, (a31, (a32, (a33, (a34, (a35, (a36, (a37, (a38, ())))))))))))))))))))))))))))))))))))))))))))
def kHouseOwn_loop4_16 (x : ty29_) : Option ty31_ := loopO 40016 (fun x => (kHouseOwn_step4_16 x).eval) 18446744073709551616 x
def kHouseOwn_L4_11 : LS := ⟨11, [(14, 14), (4, 4), (9, 9), (10, 10), (11, 11), (12, 12), (44000, 44000), (44001, 44001), (44002, 44002), (44003, 44003)], ⟨126, [(71, .v (.one (.i .i64))), (14, .v (.one (.ptr 14 0))), (13, .v (.one (.clp 16 [(4, 0), (9, 0), (10, 0), (11, 0), (12, 0)]))), (18, .v (.one (.b))), (70, .v (.one (.i .i64)))], [(14, .cells [.i .u32, .i .i64, .i .i64, .i .i64, .i .i64, .i .i64, .own 44000, .b, .own 44001, .own 44002, .i .i64, .i .i64, .i .u64, .i .i64, .i .u64, .own 44003]), (4, .cells [.i .u32, .i .i64, .i .i64, .i .i64, .i .i64, .i .i64, .st 10 false, .b, .st 19 false, .st 16 false, .i .i64, .i .i64, .i .u64, .i .i64, .i .u64, .st 17 false]), (9, .cells [.st 10 false]), (10, .cells [.st 19 false]), (11, .cells [.st 16 false]), (12, .cells [.st 17 false]), (44000, .row 54 10 true true), (44001, .row 59 19 true true), (44002, .row 64 16 true true), (44003, .row 67 17 true true)]⟩, [⟨some 2, [(14, 14), (4, 4), (9, 9), (10, 10), (11, 11), (12, 12), (44000, 44000), (44001, 44001), (44002, 44002), (44003, 44003)], ⟨126, [(14, .v (.one (.ptr 14 0))), (13, .v (.one (.clp 16 [(4, 0), (9, 0), (10, 0), (11, 0), (12, 0)]))), (18, .v (.one (.b)))], [(14, .cells [.i .u32, .i .i64, .i .i64, .i .i64, .i .i64, .i .i64, .own 44000, .b, .own 44001, .own 44002, .i .i64, .i .i64, .i .u64, .i .i64, .i .u64, .own 44003]), (4, .cells [.i .u32, .i .i64, .i .i64, .i .i64, .i .i64, .i .i64, .st 10 false, .b, .st 19 false, .st 16 false, .i .i64, .i .i64, .i .u64, .i .i64, .i .u64, .st 17 false]), (9, .cells [.st 10 false]), (10, .cells [.st 19 false]), (11, .cells [.st 16 false]), (12, .cells [.st 17 false]), (44000, .row 54 10 true true), (44001, .row 59 19 true true), (44002, .row 64 16 true true), (44003, .row 67 17 true true)]⟩⟩], []⟩
def kHouseOwn_step4_11 : ty29_ -> Tr (ty29_ ⊕ ty31_) :=
 fun (a0, a1, a2, a3, a4, a5, a6, a7, a8, a9, a10, a11, a12, a13, a14, a15, a16, a17, a18, a19, a20, a21, a22, a23, a24, a25, a26, a27, a28, a29, a30, a31, a32, a33, a34, a35, a36, a37, a38, _) =>
 .ite (decide (a0 < a2)) (
 .grd (decide (0 <= a0 /\ a0 < (↑(a36.length) : Int))) (
 .opt (a36[Int.toNat a0]?) (fun r0 =>
 .grd (decide (0 <= a0 /\ a0 < (↑(a36.length) : Int))) (
 .opt (a36[Int.toNat a0]?) (fun r1 =>
 gd a35.length (
 .grd (decide (a36.length = List.length (List.set a36 (Int.toNat a0) (TMeter.mk (wW .u32 (r0.addr + 1)) r1.rate r1.most r1.has r1.at')))) (
 gd a37.length (
 gd a38.length (
 .ret (Sum.inl (wW .i64 (a0 + 1), (a1, (a2, (a3, (a4, (a5, (a6, (a7, (a8, (a9, (a10, (a11, (a12, (a13, (a14, (a15, (a16, (a17, (a18, (a19, (a20, (a21, (a22, (a23, (a24, (a25, (a26, (a27, (a28, (a29, (a30, (a31, (a32, (a33, (a34, (a35, (List.set a36 (Int.toNat a0) (TMeter.mk (wW .u32 (r0.addr + 1)) r1.rate r1.most r1.has r1.at'), (a37, (a38, ()))))))))))))))))))))))))))))))))))))))))))))))))) (
 gd a35.length (
 gd a36.length (
 gd a37.length (
 gd a38.length (
 .ret (Sum.inr (a1, (a3, (a4, (a5, (a6, (a7, (a8, (a9, (a10, (a11, (a12, (a13, (a14, (a15, (a16, (a17, (a18, (a19, (a20, (a21, (a22, (a23, (a24, (a25, (a26, (a27, (a28, (a29, (a30, (a31, (a32, (a33, (a34, (a35, (a36, (a37, (a38, ())))))))))))))))))))))))))))))))))))))))))))
def kHouseOwn_loop4_11 (x : ty29_) : Option ty31_ := loopO 40011 (fun x => (kHouseOwn_step4_11 x).eval) 18446744073709551616 x
def kHouseOwn_L4_6 : LS := ⟨6, [(14, 14), (4, 4), (9, 9), (10, 10), (11, 11), (12, 12), (44000, 44000), (44001, 44001), (44002, 44002), (44003, 44003)], ⟨126, [(54, .v (.one (.i .i64))), (14, .v (.one (.ptr 14 0))), (13, .v (.one (.clp 16 [(4, 0), (9, 0), (10, 0), (11, 0), (12, 0)]))), (18, .v (.one (.b))), (53, .v (.one (.i .i64)))], [(14, .cells [.i .u32, .i .i64, .i .i64, .i .i64, .i .i64, .i .i64, .own 44000, .b, .own 44001, .own 44002, .i .i64, .i .i64, .i .u64, .i .i64, .i .u64, .own 44003]), (4, .cells [.i .u32, .i .i64, .i .i64, .i .i64, .i .i64, .i .i64, .st 10 false, .b, .st 19 false, .st 16 false, .i .i64, .i .i64, .i .u64, .i .i64, .i .u64, .st 17 false]), (9, .cells [.st 10 false]), (10, .cells [.st 19 false]), (11, .cells [.st 16 false]), (12, .cells [.st 17 false]), (44000, .row 54 10 true true), (44001, .row 59 19 true true), (44002, .row 64 16 true true), (44003, .row 67 17 true true)]⟩, [⟨some 0, [(14, 14), (4, 4), (9, 9), (10, 10), (11, 11), (12, 12), (44000, 44000), (44001, 44001), (44002, 44002), (44003, 44003)], ⟨126, [(14, .v (.one (.ptr 14 0))), (13, .v (.one (.clp 16 [(4, 0), (9, 0), (10, 0), (11, 0), (12, 0)]))), (18, .v (.one (.b)))], [(14, .cells [.i .u32, .i .i64, .i .i64, .i .i64, .i .i64, .i .i64, .own 44000, .b, .own 44001, .own 44002, .i .i64, .i .i64, .i .u64, .i .i64, .i .u64, .own 44003]), (4, .cells [.i .u32, .i .i64, .i .i64, .i .i64, .i .i64, .i .i64, .st 10 false, .b, .st 19 false, .st 16 false, .i .i64, .i .i64, .i .u64, .i .i64, .i .u64, .st 17 false]), (9, .cells [.st 10 false]), (10, .cells [.st 19 false]), (11, .cells [.st 16 false]), (12, .cells [.st 17 false]), (44000, .row 54 10 true true), (44001, .row 59 19 true true), (44002, .row 64 16 true true), (44003, .row 67 17 true true)]⟩⟩], []⟩
def kHouseOwn_step4_6 : ty29_ -> Tr (ty29_ ⊕ ty31_) :=
 fun (a0, a1, a2, a3, a4, a5, a6, a7, a8, a9, a10, a11, a12, a13, a14, a15, a16, a17, a18, a19, a20, a21, a22, a23, a24, a25, a26, a27, a28, a29, a30, a31, a32, a33, a34, a35, a36, a37, a38, _) =>
 .ite (decide (a0 < a2)) (
 .grd (decide (0 <= a0 /\ a0 < (↑(a35.length) : Int))) (
 .opt (a35[Int.toNat a0]?) (fun r0 =>
 .grd (decide (0 <= a0 /\ a0 < (↑(a35.length) : Int))) (
 .opt (a35[Int.toNat a0]?) (fun r1 =>
 .grd (decide (a35.length = List.length (List.set a35 (Int.toNat a0) (TRule.mk r1.fromAddr r1.fromLong r1.toAddr r1.toLong (wW .i64 (r0.proto + 1)) r1.fromLow r1.fromHigh r1.toLow r1.toHigh r1.pass)))) (
 gd a36.length (
 gd a37.length (
 gd a38.length (
 .ret (Sum.inl (wW .i64 (a0 + 1), (a1, (a2, (a3, (a4, (a5, (a6, (a7, (a8, (a9, (a10, (a11, (a12, (a13, (a14, (a15, (a16, (a17, (a18, (a19, (a20, (a21, (a22, (a23, (a24, (a25, (a26, (a27, (a28, (a29, (a30, (a31, (a32, (a33, (a34, (List.set a35 (Int.toNat a0) (TRule.mk r1.fromAddr r1.fromLong r1.toAddr r1.toLong (wW .i64 (r0.proto + 1)) r1.fromLow r1.fromHigh r1.toLow r1.toHigh r1.pass), (a36, (a37, (a38, ()))))))))))))))))))))))))))))))))))))))))))))))))) (
 gd a35.length (
 gd a36.length (
 gd a37.length (
 gd a38.length (
 .ret (Sum.inr (a1, (a3, (a4, (a5, (a6, (a7, (a8, (a9, (a10, (a11, (a12, (a13, (a14, (a15, (a16, (a17, (a18, (a19, (a20, (a21, (a22, (a23, (a24, (a25, (a26, (a27, (a28, (a29, (a30, (a31, (a32, (a33, (a34, (a35, (a36, (a37, (a38, ())))))))))))))))))))))))))))))))))))))))))))
def kHouseOwn_loop4_6 (x : ty29_) : Option ty31_ := loopO 40006 (fun x => (kHouseOwn_step4_6 x).eval) 18446744073709551616 x
def kHouseOwn_ap : List VP1 := [.agg [.i .u32, .i .i64, .i .i64, .i .i64, .i .i64, .i .i64, .st 10 false, .b, .st 19 false, .st 16 false, .i .i64, .i .i64, .i .u64, .i .i64, .i .u64, .st 17 false], .one (.b), .one (.s), .one (.i .i64)]
def kHouseOwn_rp : SP := ⟨1, [(0, .v (.one (.b)))], []⟩
abbrev y24 {a0 a1 a2 a3 a4 a5 a6 a7 a8 a9 a10 a11 a12 a13 a14 a15 a16 a17 a18 a19 a20 a21 a22 a23 b c : Type} (x : a0 × a1 × a2 × a3 × a4 × a5 × a6 × a7 × a8 × a9 × a10 × a11 × a12 × a13 × a14 × a15 × a16 × a17 × a18 × a19 × a20 × a21 × a22 × a23 × b × c) : b := x.2.2.2.2.2.2.2.2.2.2.2.2.2.2.2.2.2.2.2.2.2.2.2.2.1
abbrev y25 {a0 a1 a2 a3 a4 a5 a6 a7 a8 a9 a10 a11 a12 a13 a14 a15 a16 a17 a18 a19 a20 a21 a22 a23 a24 b c : Type} (x : a0 × a1 × a2 × a3 × a4 × a5 × a6 × a7 × a8 × a9 × a10 × a11 × a12 × a13 × a14 × a15 × a16 × a17 × a18 × a19 × a20 × a21 × a22 × a23 × a24 × b × c) : b := x.2.2.2.2.2.2.2.2.2.2.2.2.2.2.2.2.2.2.2.2.2.2.2.2.2.1
abbrev y26 {a0 a1 a2 a3 a4 a5 a6 a7 a8 a9 a10 a11 a12 a13 a14 a15 a16 a17 a18 a19 a20 a21 a22 a23 a24 a25 b c : Type} (x : a0 × a1 × a2 × a3 × a4 × a5 × a6 × a7 × a8 × a9 × a10 × a11 × a12 × a13 × a14 × a15 × a16 × a17 × a18 × a19 × a20 × a21 × a22 × a23 × a24 × a25 × b × c) : b := x.2.2.2.2.2.2.2.2.2.2.2.2.2.2.2.2.2.2.2.2.2.2.2.2.2.2.1
abbrev y27 {a0 a1 a2 a3 a4 a5 a6 a7 a8 a9 a10 a11 a12 a13 a14 a15 a16 a17 a18 a19 a20 a21 a22 a23 a24 a25 a26 b c : Type} (x : a0 × a1 × a2 × a3 × a4 × a5 × a6 × a7 × a8 × a9 × a10 × a11 × a12 × a13 × a14 × a15 × a16 × a17 × a18 × a19 × a20 × a21 × a22 × a23 × a24 × a25 × a26 × b × c) : b := x.2.2.2.2.2.2.2.2.2.2.2.2.2.2.2.2.2.2.2.2.2.2.2.2.2.2.2.1
abbrev y28 {a0 a1 a2 a3 a4 a5 a6 a7 a8 a9 a10 a11 a12 a13 a14 a15 a16 a17 a18 a19 a20 a21 a22 a23 a24 a25 a26 a27 b c : Type} (x : a0 × a1 × a2 × a3 × a4 × a5 × a6 × a7 × a8 × a9 × a10 × a11 × a12 × a13 × a14 × a15 × a16 × a17 × a18 × a19 × a20 × a21 × a22 × a23 × a24 × a25 × a26 × a27 × b × c) : b := x.2.2.2.2.2.2.2.2.2.2.2.2.2.2.2.2.2.2.2.2.2.2.2.2.2.2.2.2.1
abbrev y29 {a0 a1 a2 a3 a4 a5 a6 a7 a8 a9 a10 a11 a12 a13 a14 a15 a16 a17 a18 a19 a20 a21 a22 a23 a24 a25 a26 a27 a28 b c : Type} (x : a0 × a1 × a2 × a3 × a4 × a5 × a6 × a7 × a8 × a9 × a10 × a11 × a12 × a13 × a14 × a15 × a16 × a17 × a18 × a19 × a20 × a21 × a22 × a23 × a24 × a25 × a26 × a27 × a28 × b × c) : b := x.2.2.2.2.2.2.2.2.2.2.2.2.2.2.2.2.2.2.2.2.2.2.2.2.2.2.2.2.2.1
abbrev y30 {a0 a1 a2 a3 a4 a5 a6 a7 a8 a9 a10 a11 a12 a13 a14 a15 a16 a17 a18 a19 a20 a21 a22 a23 a24 a25 a26 a27 a28 a29 b c : Type} (x : a0 × a1 × a2 × a3 × a4 × a5 × a6 × a7 × a8 × a9 × a10 × a11 × a12 × a13 × a14 × a15 × a16 × a17 × a18 × a19 × a20 × a21 × a22 × a23 × a24 × a25 × a26 × a27 × a28 × a29 × b × c) : b := x.2.2.2.2.2.2.2.2.2.2.2.2.2.2.2.2.2.2.2.2.2.2.2.2.2.2.2.2.2.2.1
abbrev y31 {a0 a1 a2 a3 a4 a5 a6 a7 a8 a9 a10 a11 a12 a13 a14 a15 a16 a17 a18 a19 a20 a21 a22 a23 a24 a25 a26 a27 a28 a29 a30 b c : Type} (x : a0 × a1 × a2 × a3 × a4 × a5 × a6 × a7 × a8 × a9 × a10 × a11 × a12 × a13 × a14 × a15 × a16 × a17 × a18 × a19 × a20 × a21 × a22 × a23 × a24 × a25 × a26 × a27 × a28 × a29 × a30 × b × c) : b := x.2.2.2.2.2.2.2.2.2.2.2.2.2.2.2.2.2.2.2.2.2.2.2.2.2.2.2.2.2.2.2.1
abbrev y32 {a0 a1 a2 a3 a4 a5 a6 a7 a8 a9 a10 a11 a12 a13 a14 a15 a16 a17 a18 a19 a20 a21 a22 a23 a24 a25 a26 a27 a28 a29 a30 a31 b c : Type} (x : a0 × a1 × a2 × a3 × a4 × a5 × a6 × a7 × a8 × a9 × a10 × a11 × a12 × a13 × a14 × a15 × a16 × a17 × a18 × a19 × a20 × a21 × a22 × a23 × a24 × a25 × a26 × a27 × a28 × a29 × a30 × a31 × b × c) : b := x.2.2.2.2.2.2.2.2.2.2.2.2.2.2.2.2.2.2.2.2.2.2.2.2.2.2.2.2.2.2.2.2.1
abbrev y33 {a0 a1 a2 a3 a4 a5 a6 a7 a8 a9 a10 a11 a12 a13 a14 a15 a16 a17 a18 a19 a20 a21 a22 a23 a24 a25 a26 a27 a28 a29 a30 a31 a32 b c : Type} (x : a0 × a1 × a2 × a3 × a4 × a5 × a6 × a7 × a8 × a9 × a10 × a11 × a12 × a13 × a14 × a15 × a16 × a17 × a18 × a19 × a20 × a21 × a22 × a23 × a24 × a25 × a26 × a27 × a28 × a29 × a30 × a31 × a32 × b × c) : b := x.2.2.2.2.2.2.2.2.2.2.2.2.2.2.2.2.2.2.2.2.2.2.2.2.2.2.2.2.2.2.2.2.2.1
abbrev y34 {a0 a1 a2 a3 a4 a5 a6 a7 a8 a9 a10 a11 a12 a13 a14 a15 a16 a17 a18 a19 a20 a21 a22 a23 a24 a25 a26 a27 a28 a29 a30 a31 a32 a33 b c : Type} (x : a0 × a1 × a2 × a3 × a4 × a5 × a6 × a7 × a8 × a9 × a10 × a11 × a12 × a13 × a14 × a15 × a16 × a17 × a18 × a19 × a20 × a21 × a22 × a23 × a24 × a25 × a26 × a27 × a28 × a29 × a30 × a31 × a32 × a33 × b × c) : b := x.2.2.2.2.2.2.2.2.2.2.2.2.2.2.2.2.2.2.2.2.2.2.2.2.2.2.2.2.2.2.2.2.2.2.1
abbrev y35 {a0 a1 a2 a3 a4 a5 a6 a7 a8 a9 a10 a11 a12 a13 a14 a15 a16 a17 a18 a19 a20 a21 a22 a23 a24 a25 a26 a27 a28 a29 a30 a31 a32 a33 a34 b c : Type} (x : a0 × a1 × a2 × a3 × a4 × a5 × a6 × a7 × a8 × a9 × a10 × a11 × a12 × a13 × a14 × a15 × a16 × a17 × a18 × a19 × a20 × a21 × a22 × a23 × a24 × a25 × a26 × a27 × a28 × a29 × a30 × a31 × a32 × a33 × a34 × b × c) : b := x.2.2.2.2.2.2.2.2.2.2.2.2.2.2.2.2.2.2.2.2.2.2.2.2.2.2.2.2.2.2.2.2.2.2.2.1
abbrev y36 {a0 a1 a2 a3 a4 a5 a6 a7 a8 a9 a10 a11 a12 a13 a14 a15 a16 a17 a18 a19 a20 a21 a22 a23 a24 a25 a26 a27 a28 a29 a30 a31 a32 a33 a34 a35 b c : Type} (x : a0 × a1 × a2 × a3 × a4 × a5 × a6 × a7 × a8 × a9 × a10 × a11 × a12 × a13 × a14 × a15 × a16 × a17 × a18 × a19 × a20 × a21 × a22 × a23 × a24 × a25 × a26 × a27 × a28 × a29 × a30 × a31 × a32 × a33 × a34 × a35 × b × c) : b := x.2.2.2.2.2.2.2.2.2.2.2.2.2.2.2.2.2.2.2.2.2.2.2.2.2.2.2.2.2.2.2.2.2.2.2.2.1
def kHouseOwn_tree : ty23_ -> Tr (Bool × Unit) :=
 fun (a0, a1, a2, a3, a4, a5, a6, a7, a8, a9, a10, a11, a12, a13, a14, a15, a16, a17, a18, _) =>
 .grd (decide (((0 : Nat) + a6.length) * (80 : Nat) <= (140737488355328 : Nat) /\ (0 : Nat) + a6.length <= (9223372036854775807 : Nat))) (
 .grd (decide (((0 : Nat) + a8.length) * (40 : Nat) <= (140737488355328 : Nat) /\ (0 : Nat) + a8.length <= (9223372036854775807 : Nat))) (
 .grd (decide (((0 : Nat) + a9.length) * (48 : Nat) <= (140737488355328 : Nat) /\ (0 : Nat) + a9.length <= (9223372036854775807 : Nat))) (
 .grd (decide (((0 : Nat) + a15.length) * (40 : Nat) <= (140737488355328 : Nat) /\ (0 : Nat) + a15.length <= (9223372036854775807 : Nat))) (
 .opt ((hsHearO_fn (a0, (a1, (a2, (a3, (a4, (a5, (a6, (a7, (a8, (a9, (a10, (a11, (a12, (a13, (a14, (a15, (a16, (a17, (a18, ()))))))))))))))))))))) (fun r0 =>
 .opt ((eqRule_fn (a6, (a6, ())))) (fun r1 =>
 .ite (r1.1) (
 .opt ((eqMeter_fn (a8, (a8, ())))) (fun r2 =>
 .ite (r2.1) (
 .opt ((eqTalk_fn (a9, (a9, ())))) (fun r3 =>
 .ite (r3.1) (
 .opt ((eqMap_fn (a15, (a15, ())))) (fun r4 =>
 gd (y15 r0).length (
 gd (y16 r0).length (
 gd (y17 r0).length (
 gd (y18 r0).length (
 .opt ((kHouseOwn_loop4_6 (0, (r4.1, ((↑((y15 r0).length) : Int), (r0.1, (r0.2.1, (r0.2.2.1, (y3 r0, (y4 r0, (y5 r0, (y6 r0, (y7 r0, (y8 r0, (y9 r0, (y10 r0, (y11 r0, (a0, (a1, (a2, (a3, (a4, (a5, (a6, (a7, (a8, (a9, (a10, (a11, (a12, (a13, (a14, (a15, (a6, (a8, (a9, (a15, (y15 r0, (y16 r0, (y17 r0, (y18 r0, ()))))))))))))))))))))))))))))))))))))))))) (fun r5 =>
 gd (y33 r5).length (
 gd (y34 r5).length (
 gd (y35 r5).length (
 gd (y36 r5).length (
 .opt ((kHouseOwn_loop4_11 (0, (r5.1, ((↑((y34 r5).length) : Int), (r5.2.1, (r5.2.2.1, (y3 r5, (y4 r5, (y5 r5, (y6 r5, (y7 r5, (y8 r5, (y9 r5, (y10 r5, (y11 r5, (y12 r5, (y13 r5, (y14 r5, (y15 r5, (y16 r5, (y17 r5, (y18 r5, (y19 r5, (y20 r5, (y21 r5, (y22 r5, (y23 r5, (y24 r5, (y25 r5, (y26 r5, (y27 r5, (y28 r5, (y29 r5, (y30 r5, (y31 r5, (y32 r5, (y33 r5, (y34 r5, (y35 r5, (y36 r5, ()))))))))))))))))))))))))))))))))))))))))) (fun r6 =>
 gd (y33 r6).length (
 gd (y34 r6).length (
 gd (y35 r6).length (
 gd (y36 r6).length (
 .opt ((kHouseOwn_loop4_16 (0, (r6.1, ((↑((y35 r6).length) : Int), (r6.2.1, (r6.2.2.1, (y3 r6, (y4 r6, (y5 r6, (y6 r6, (y7 r6, (y8 r6, (y9 r6, (y10 r6, (y11 r6, (y12 r6, (y13 r6, (y14 r6, (y15 r6, (y16 r6, (y17 r6, (y18 r6, (y19 r6, (y20 r6, (y21 r6, (y22 r6, (y23 r6, (y24 r6, (y25 r6, (y26 r6, (y27 r6, (y28 r6, (y29 r6, (y30 r6, (y31 r6, (y32 r6, (y33 r6, (y34 r6, (y35 r6, (y36 r6, ()))))))))))))))))))))))))))))))))))))))))) (fun r7 =>
 gd (y33 r7).length (
 gd (y34 r7).length (
 gd (y35 r7).length (
 gd (y36 r7).length (
 .opt ((kHouseOwn_loop4_21 (0, (r7.1, ((↑((y36 r7).length) : Int), (r7.2.1, (r7.2.2.1, (y3 r7, (y4 r7, (y5 r7, (y6 r7, (y7 r7, (y8 r7, (y9 r7, (y10 r7, (y11 r7, (y12 r7, (y13 r7, (y14 r7, (y15 r7, (y16 r7, (y17 r7, (y18 r7, (y19 r7, (y20 r7, (y21 r7, (y22 r7, (y23 r7, (y24 r7, (y25 r7, (y26 r7, (y27 r7, (y28 r7, (y29 r7, (y30 r7, (y31 r7, (y32 r7, (y33 r7, (y34 r7, (y35 r7, (y36 r7, ()))))))))))))))))))))))))))))))))))))))))) (fun r8 =>
 .opt ((kHouseLives_fn ())) (fun r9 =>
 .ite (r9.1) (
 .ite (r8.1) (
 .opt ((eqRule_fn (y7 r8, (y17 r8, ())))) (fun r10 =>
 .ite (r10.1) (
 .opt ((eqMeter_fn (y9 r8, (y18 r8, ())))) (fun r11 =>
 .ite (r11.1) (
 .opt ((eqTalk_fn (y10 r8, (y19 r8, ())))) (fun r12 =>
 .ite (r12.1) (
 .opt ((eqMap_fn (y16 r8, (y20 r8, ())))) (fun r13 =>
 .ret (r13.1, ()))) (
 .ret (false, ())))) (
 .ret (false, ())))) (
 .ret (false, ())))) (
 .ret (false, ()))) (
 .ret (false, ()))))))))))))))))))))))))) (
 gd (y15 r0).length (
 gd (y16 r0).length (
 gd (y17 r0).length (
 gd (y18 r0).length (
 .opt ((kHouseOwn_loop4_6 (0, (false, ((↑((y15 r0).length) : Int), (r0.1, (r0.2.1, (r0.2.2.1, (y3 r0, (y4 r0, (y5 r0, (y6 r0, (y7 r0, (y8 r0, (y9 r0, (y10 r0, (y11 r0, (a0, (a1, (a2, (a3, (a4, (a5, (a6, (a7, (a8, (a9, (a10, (a11, (a12, (a13, (a14, (a15, (a6, (a8, (a9, (a15, (y15 r0, (y16 r0, (y17 r0, (y18 r0, ()))))))))))))))))))))))))))))))))))))))))) (fun r4 =>
 gd (y33 r4).length (
 gd (y34 r4).length (
 gd (y35 r4).length (
 gd (y36 r4).length (
 .opt ((kHouseOwn_loop4_11 (0, (r4.1, ((↑((y34 r4).length) : Int), (r4.2.1, (r4.2.2.1, (y3 r4, (y4 r4, (y5 r4, (y6 r4, (y7 r4, (y8 r4, (y9 r4, (y10 r4, (y11 r4, (y12 r4, (y13 r4, (y14 r4, (y15 r4, (y16 r4, (y17 r4, (y18 r4, (y19 r4, (y20 r4, (y21 r4, (y22 r4, (y23 r4, (y24 r4, (y25 r4, (y26 r4, (y27 r4, (y28 r4, (y29 r4, (y30 r4, (y31 r4, (y32 r4, (y33 r4, (y34 r4, (y35 r4, (y36 r4, ()))))))))))))))))))))))))))))))))))))))))) (fun r5 =>
 gd (y33 r5).length (
 gd (y34 r5).length (
 gd (y35 r5).length (
 gd (y36 r5).length (
 .opt ((kHouseOwn_loop4_16 (0, (r5.1, ((↑((y35 r5).length) : Int), (r5.2.1, (r5.2.2.1, (y3 r5, (y4 r5, (y5 r5, (y6 r5, (y7 r5, (y8 r5, (y9 r5, (y10 r5, (y11 r5, (y12 r5, (y13 r5, (y14 r5, (y15 r5, (y16 r5, (y17 r5, (y18 r5, (y19 r5, (y20 r5, (y21 r5, (y22 r5, (y23 r5, (y24 r5, (y25 r5, (y26 r5, (y27 r5, (y28 r5, (y29 r5, (y30 r5, (y31 r5, (y32 r5, (y33 r5, (y34 r5, (y35 r5, (y36 r5, ()))))))))))))))))))))))))))))))))))))))))) (fun r6 =>
 gd (y33 r6).length (
 gd (y34 r6).length (
 gd (y35 r6).length (
 gd (y36 r6).length (
 .opt ((kHouseOwn_loop4_21 (0, (r6.1, ((↑((y36 r6).length) : Int), (r6.2.1, (r6.2.2.1, (y3 r6, (y4 r6, (y5 r6, (y6 r6, (y7 r6, (y8 r6, (y9 r6, (y10 r6, (y11 r6, (y12 r6, (y13 r6, (y14 r6, (y15 r6, (y16 r6, (y17 r6, (y18 r6, (y19 r6, (y20 r6, (y21 r6, (y22 r6, (y23 r6, (y24 r6, (y25 r6, (y26 r6, (y27 r6, (y28 r6, (y29 r6, (y30 r6, (y31 r6, (y32 r6, (y33 r6, (y34 r6, (y35 r6, (y36 r6, ()))))))))))))))))))))))))))))))))))))))))) (fun r7 =>
 .opt ((kHouseLives_fn ())) (fun r8 =>
 .ite (r8.1) (
 .ite (r7.1) (
 .opt ((eqRule_fn (y7 r7, (y17 r7, ())))) (fun r9 =>
 .ite (r9.1) (
 .opt ((eqMeter_fn (y9 r7, (y18 r7, ())))) (fun r10 =>
 .ite (r10.1) (
 .opt ((eqTalk_fn (y10 r7, (y19 r7, ())))) (fun r11 =>
 .ite (r11.1) (
 .opt ((eqMap_fn (y16 r7, (y20 r7, ())))) (fun r12 =>
 .ret (r12.1, ()))) (
 .ret (false, ())))) (
 .ret (false, ())))) (
 .ret (false, ())))) (
 .ret (false, ()))) (
 .ret (false, ())))))))))))))))))))))))))) (
 gd (y15 r0).length (
 gd (y16 r0).length (
 gd (y17 r0).length (
 gd (y18 r0).length (
 .opt ((kHouseOwn_loop4_6 (0, (false, ((↑((y15 r0).length) : Int), (r0.1, (r0.2.1, (r0.2.2.1, (y3 r0, (y4 r0, (y5 r0, (y6 r0, (y7 r0, (y8 r0, (y9 r0, (y10 r0, (y11 r0, (a0, (a1, (a2, (a3, (a4, (a5, (a6, (a7, (a8, (a9, (a10, (a11, (a12, (a13, (a14, (a15, (a6, (a8, (a9, (a15, (y15 r0, (y16 r0, (y17 r0, (y18 r0, ()))))))))))))))))))))))))))))))))))))))))) (fun r3 =>
 gd (y33 r3).length (
 gd (y34 r3).length (
 gd (y35 r3).length (
 gd (y36 r3).length (
 .opt ((kHouseOwn_loop4_11 (0, (r3.1, ((↑((y34 r3).length) : Int), (r3.2.1, (r3.2.2.1, (y3 r3, (y4 r3, (y5 r3, (y6 r3, (y7 r3, (y8 r3, (y9 r3, (y10 r3, (y11 r3, (y12 r3, (y13 r3, (y14 r3, (y15 r3, (y16 r3, (y17 r3, (y18 r3, (y19 r3, (y20 r3, (y21 r3, (y22 r3, (y23 r3, (y24 r3, (y25 r3, (y26 r3, (y27 r3, (y28 r3, (y29 r3, (y30 r3, (y31 r3, (y32 r3, (y33 r3, (y34 r3, (y35 r3, (y36 r3, ()))))))))))))))))))))))))))))))))))))))))) (fun r4 =>
 gd (y33 r4).length (
 gd (y34 r4).length (
 gd (y35 r4).length (
 gd (y36 r4).length (
 .opt ((kHouseOwn_loop4_16 (0, (r4.1, ((↑((y35 r4).length) : Int), (r4.2.1, (r4.2.2.1, (y3 r4, (y4 r4, (y5 r4, (y6 r4, (y7 r4, (y8 r4, (y9 r4, (y10 r4, (y11 r4, (y12 r4, (y13 r4, (y14 r4, (y15 r4, (y16 r4, (y17 r4, (y18 r4, (y19 r4, (y20 r4, (y21 r4, (y22 r4, (y23 r4, (y24 r4, (y25 r4, (y26 r4, (y27 r4, (y28 r4, (y29 r4, (y30 r4, (y31 r4, (y32 r4, (y33 r4, (y34 r4, (y35 r4, (y36 r4, ()))))))))))))))))))))))))))))))))))))))))) (fun r5 =>
 gd (y33 r5).length (
 gd (y34 r5).length (
 gd (y35 r5).length (
 gd (y36 r5).length (
 .opt ((kHouseOwn_loop4_21 (0, (r5.1, ((↑((y36 r5).length) : Int), (r5.2.1, (r5.2.2.1, (y3 r5, (y4 r5, (y5 r5, (y6 r5, (y7 r5, (y8 r5, (y9 r5, (y10 r5, (y11 r5, (y12 r5, (y13 r5, (y14 r5, (y15 r5, (y16 r5, (y17 r5, (y18 r5, (y19 r5, (y20 r5, (y21 r5, (y22 r5, (y23 r5, (y24 r5, (y25 r5, (y26 r5, (y27 r5, (y28 r5, (y29 r5, (y30 r5, (y31 r5, (y32 r5, (y33 r5, (y34 r5, (y35 r5, (y36 r5, ()))))))))))))))))))))))))))))))))))))))))) (fun r6 =>
 .opt ((kHouseLives_fn ())) (fun r7 =>
 .ite (r7.1) (
 .ite (r6.1) (
 .opt ((eqRule_fn (y7 r6, (y17 r6, ())))) (fun r8 =>
 .ite (r8.1) (
 .opt ((eqMeter_fn (y9 r6, (y18 r6, ())))) (fun r9 =>
 .ite (r9.1) (
 .opt ((eqTalk_fn (y10 r6, (y19 r6, ())))) (fun r10 =>
 .ite (r10.1) (
 .opt ((eqMap_fn (y16 r6, (y20 r6, ())))) (fun r11 =>
 .ret (r11.1, ()))) (
 .ret (false, ())))) (
 .ret (false, ())))) (
 .ret (false, ())))) (
 .ret (false, ()))) (
 .ret (false, ())))))))))))))))))))))))))) (
 gd (y15 r0).length (
 gd (y16 r0).length (
 gd (y17 r0).length (
 gd (y18 r0).length (
 .opt ((kHouseOwn_loop4_6 (0, (false, ((↑((y15 r0).length) : Int), (r0.1, (r0.2.1, (r0.2.2.1, (y3 r0, (y4 r0, (y5 r0, (y6 r0, (y7 r0, (y8 r0, (y9 r0, (y10 r0, (y11 r0, (a0, (a1, (a2, (a3, (a4, (a5, (a6, (a7, (a8, (a9, (a10, (a11, (a12, (a13, (a14, (a15, (a6, (a8, (a9, (a15, (y15 r0, (y16 r0, (y17 r0, (y18 r0, ()))))))))))))))))))))))))))))))))))))))))) (fun r2 =>
 gd (y33 r2).length (
 gd (y34 r2).length (
 gd (y35 r2).length (
 gd (y36 r2).length (
 .opt ((kHouseOwn_loop4_11 (0, (r2.1, ((↑((y34 r2).length) : Int), (r2.2.1, (r2.2.2.1, (y3 r2, (y4 r2, (y5 r2, (y6 r2, (y7 r2, (y8 r2, (y9 r2, (y10 r2, (y11 r2, (y12 r2, (y13 r2, (y14 r2, (y15 r2, (y16 r2, (y17 r2, (y18 r2, (y19 r2, (y20 r2, (y21 r2, (y22 r2, (y23 r2, (y24 r2, (y25 r2, (y26 r2, (y27 r2, (y28 r2, (y29 r2, (y30 r2, (y31 r2, (y32 r2, (y33 r2, (y34 r2, (y35 r2, (y36 r2, ()))))))))))))))))))))))))))))))))))))))))) (fun r3 =>
 gd (y33 r3).length (
 gd (y34 r3).length (
 gd (y35 r3).length (
 gd (y36 r3).length (
 .opt ((kHouseOwn_loop4_16 (0, (r3.1, ((↑((y35 r3).length) : Int), (r3.2.1, (r3.2.2.1, (y3 r3, (y4 r3, (y5 r3, (y6 r3, (y7 r3, (y8 r3, (y9 r3, (y10 r3, (y11 r3, (y12 r3, (y13 r3, (y14 r3, (y15 r3, (y16 r3, (y17 r3, (y18 r3, (y19 r3, (y20 r3, (y21 r3, (y22 r3, (y23 r3, (y24 r3, (y25 r3, (y26 r3, (y27 r3, (y28 r3, (y29 r3, (y30 r3, (y31 r3, (y32 r3, (y33 r3, (y34 r3, (y35 r3, (y36 r3, ()))))))))))))))))))))))))))))))))))))))))) (fun r4 =>
 gd (y33 r4).length (
 gd (y34 r4).length (
 gd (y35 r4).length (
 gd (y36 r4).length (
 .opt ((kHouseOwn_loop4_21 (0, (r4.1, ((↑((y36 r4).length) : Int), (r4.2.1, (r4.2.2.1, (y3 r4, (y4 r4, (y5 r4, (y6 r4, (y7 r4, (y8 r4, (y9 r4, (y10 r4, (y11 r4, (y12 r4, (y13 r4, (y14 r4, (y15 r4, (y16 r4, (y17 r4, (y18 r4, (y19 r4, (y20 r4, (y21 r4, (y22 r4, (y23 r4, (y24 r4, (y25 r4, (y26 r4, (y27 r4, (y28 r4, (y29 r4, (y30 r4, (y31 r4, (y32 r4, (y33 r4, (y34 r4, (y35 r4, (y36 r4, ()))))))))))))))))))))))))))))))))))))))))) (fun r5 =>
 .opt ((kHouseLives_fn ())) (fun r6 =>
 .ite (r6.1) (
 .ite (r5.1) (
 .opt ((eqRule_fn (y7 r5, (y17 r5, ())))) (fun r7 =>
 .ite (r7.1) (
 .opt ((eqMeter_fn (y9 r5, (y18 r5, ())))) (fun r8 =>
 .ite (r8.1) (
 .opt ((eqTalk_fn (y10 r5, (y19 r5, ())))) (fun r9 =>
 .ite (r9.1) (
 .opt ((eqMap_fn (y16 r5, (y20 r5, ())))) (fun r10 =>
 .ret (r10.1, ()))) (
 .ret (false, ())))) (
 .ret (false, ())))) (
 .ret (false, ())))) (
 .ret (false, ()))) (
 .ret (false, ()))))))))))))))))))))))))))))))
noncomputable def gm73 : List (PF Go.Proofs.Tryz.prog) := gm72 ++ [FS.pf eqTalk]
theorem kHouseOwn_eq (x : ty23_) : fnTr Tryz.prog cod gm73 [(4, kHouseOwn_L4_21), (4, kHouseOwn_L4_16), (4, kHouseOwn_L4_11), (4, kHouseOwn_L4_6)] 30 4 kHouseOwn_ap kHouseOwn_rp x = kHouseOwn_tree x := by kernel_rfl
def kHouseOwn_fn (x : ty23_) : Option (Bool × Unit) := (kHouseOwn_tree x).eval
def kHouseOwn : FS Tryz.prog := ⟨4, kHouseOwn_ap, kHouseOwn_rp, kHouseOwn_fn, fun x r h => fnTr_sound (cod := cod) (Γ := gm73) (Λs := [(4, kHouseOwn_L4_21), (4, kHouseOwn_L4_16), (4, kHouseOwn_L4_11), (4, kHouseOwn_L4_6)]) (n := 30) ((congrArg Tr.eval (kHouseOwn_eq x)).trans h)⟩
end Go.Proofs.YthkhikdglmaiaaaGreatDoor.X
namespace Go.Proofs.YthkhikdglmaiaaaGreatDoor.Abs
set_option linter.unusedVariables false
theorem loopO_succ {A B : Type} (tag : Nat) (f : A -> Option (A ⊕ B)) (n : Nat) (a : A) : loopO tag f (n + 1) a = match f a with | none => none | some (.inl a') => loopO tag f n a' | some (.inr b) => some b := rfl
theorem loopO_out {A B : Type} {tag : Nat} {f : A -> Option (A ⊕ B)} {n : Nat} {a : A} {b : B} (h : f a = some (.inr b)) : loopO tag f (n + 1) a = some b := by rw [loopO_succ, h]
theorem loopO_in {A B : Type} {tag : Nat} {f : A -> Option (A ⊕ B)} {n : Nat} {a a' : A} (h : f a = some (.inl a')) : loopO tag f (n + 1) a = loopO tag f n a' := by rw [loopO_succ, h]

theorem loopO_fn {A B : Type} {tag : Nat} {f : A -> Option (A ⊕ B)} (P : A -> Prop) (g : A -> B) (μ : A -> Nat)
  (h : ∀ a, P a -> f a = some (.inr (g a)) \/ ∃ a', f a = some (.inl a') /\ P a' /\ μ a' < μ a /\ g a' = g a) : ∀ (n : Nat) (a : A), P a -> μ a < n -> loopO tag f n a = some (g a) := by
 intro n
 induction n with
 | zero => intro a _ hn; omega
 | succ n ih =>
  intro a ha hn
  rcases h a ha with e | ⟨a', e, h1, h2, h3⟩
  . exact loopO_out e
  . rw [loopO_in e, ih a' h1 (by omega), h3]
theorem loopO_ex {A B : Type} {tag : Nat} {f : A -> Option (A ⊕ B)} (P : A -> Prop) (Q : B -> Prop) (μ : A -> Nat)
  (h : ∀ a, P a -> (∃ b, f a = some (.inr b) /\ Q b) \/ ∃ a', f a = some (.inl a') /\ P a' /\ μ a' < μ a) : ∀ (n : Nat) (a : A), P a -> μ a < n -> ∃ b, loopO tag f n a = some b /\ Q b := by
 intro n
 induction n with
 | zero => intro a _ hn; omega
 | succ n ih =>
  intro a ha hn
  rcases h a ha with ⟨b, e, hb⟩ | ⟨a', e, h1, h2⟩
  . exact ⟨b, loopO_out e, hb⟩
  . rw [loopO_in e]; exact ih a' h1 (by omega)
end Go.Proofs.YthkhikdglmaiaaaGreatDoor.Abs
namespace Go.Proofs.YthkhikdglmaiaaaGreatDoor.Bits
open Go
@[go_sem] theorem signed_u8 : IntKind.u8.signed = false := rfl
@[go_sem] theorem signed_u16 : IntKind.u16.signed = false := rfl
@[go_sem] theorem signed_u32 : IntKind.u32.signed = false := rfl
@[go_sem] theorem signed_u64 : IntKind.u64.signed = false := rfl
@[go_sem] theorem signed_i64 : IntKind.i64.signed = true := rfl

theorem ofInt_nat (w : Nat) (n : Nat) (h : n < 2 ^ w) : (BitVec.ofInt w (n : Int)).toNat = n := by
 rw [BitVec.ofInt_natCast, BitVec.toNat_ofNat]; exact Nat.mod_eq_of_lt h

theorem wrap_nat (k : IntKind) (n : Nat) (h : n < 2 ^ k.bits) (hs : k.signed = true -> n < 2 ^ (k.bits - 1)) : k.wrap (n : Int) = (n : Int) := by
 have hb : (2 : Int) ^ k.bits = ((2 ^ k.bits : Nat) : Int) := by norm_cast
 have h2 : (2 : Nat) ^ k.bits = 2 ^ (k.bits - 1) + 2 ^ (k.bits - 1) := by cases k <;> rfl
 have hm : n % 2 ^ k.bits = n := Nat.mod_eq_of_lt h
 unfold IntKind.wrap
 by_cases hk : k.signed = true
 . have := hs hk
   cases k <;> simp_all [IntKind.bits, IntKind.signed] <;> omega
 . cases k <;> simp_all [IntKind.bits, IntKind.signed] <;> omega

theorem bits_and_nat (k : IntKind) (a b : Nat) (ha : a < 2 ^ k.bits) (hb : b < 2 ^ k.bits) (hs : k.signed = true -> a < 2 ^ (k.bits - 1)) :
  bits .and k (a : Int) (b : Int) = ((a &&& b : Nat) : Int) := by
 have h1 := ofInt_nat k.bits a ha
 have h2 := ofInt_nat k.bits b hb
 have h3 : a &&& b <= a := Nat.and_le_left
 show k.wrap ((BitVec.ofInt k.bits (a : Int) &&& BitVec.ofInt k.bits (b : Int)).toNat : Int) = _
 rw [BitVec.toNat_and, h1, h2]
 exact wrap_nat k _ (by omega) (fun h => by have := hs h; omega)

theorem bits_or_nat (k : IntKind) (a b : Nat) (ha : a < 2 ^ k.bits) (hb : b < 2 ^ k.bits) (hs : k.signed = true -> a < 2 ^ (k.bits - 1) /\ b < 2 ^ (k.bits - 1)) :
  bits .or k (a : Int) (b : Int) = ((a ||| b : Nat) : Int) := by
 have h1 := ofInt_nat k.bits a ha
 have h2 := ofInt_nat k.bits b hb
 show k.wrap ((BitVec.ofInt k.bits (a : Int) ||| BitVec.ofInt k.bits (b : Int)).toNat : Int) = _
 rw [BitVec.toNat_or, h1, h2]
 exact wrap_nat k _ (Nat.or_lt_two_pow ha hb) (fun h => Nat.or_lt_two_pow (hs h).1 (hs h).2)

theorem bits_xor_nat (k : IntKind) (a b : Nat) (ha : a < 2 ^ k.bits) (hb : b < 2 ^ k.bits) (hs : k.signed = true -> a < 2 ^ (k.bits - 1) /\ b < 2 ^ (k.bits - 1)) :
  bits .xor k (a : Int) (b : Int) = ((a ^^^ b : Nat) : Int) := by
 have h1 := ofInt_nat k.bits a ha
 have h2 := ofInt_nat k.bits b hb
 show k.wrap ((BitVec.ofInt k.bits (a : Int) ^^^ BitVec.ofInt k.bits (b : Int)).toNat : Int) = _
 rw [BitVec.toNat_xor, h1, h2]
 exact wrap_nat k _ (Nat.xor_lt_two_pow ha hb) (fun h => Nat.xor_lt_two_pow (hs h).1 (hs h).2)

theorem bits_and_mask (k : IntKind) (j : Nat) (x : Int) (h0 : 0 <= x) (h1 : x < 2 ^ k.bits) (hj : j < k.bits) (hs : k.signed = true -> x < 2 ^ (k.bits - 1)) :
  bits .and k x (2 ^ j - 1) = x % 2 ^ j := by
 obtain ⟨n, rfl⟩ := Int.eq_ofNat_of_zero_le h0
 have e : ((2 : Int) ^ j - 1) = ((2 ^ j - 1 : Nat) : Int) := by
  rw [Int.ofNat_sub (Nat.one_le_two_pow)]; norm_cast
 have hlt : (2 : Nat) ^ j < 2 ^ k.bits := Nat.pow_lt_pow_right (by omega) hj
 have h1' : n < 2 ^ k.bits := by exact_mod_cast h1
 rw [e, bits_and_nat k n _ h1' (by omega) (fun h => by exact_mod_cast hs h), Nat.and_two_pow_sub_one_eq_mod]
 norm_cast

theorem bits_or_disjoint (k : IntKind) (j : Nat) (x y : Int) (hx : 0 <= x) (hy : 0 <= y) (hy' : y < 2 ^ j) (h1 : x * 2 ^ j + y < 2 ^ k.bits) (hs : k.signed = true -> x * 2 ^ j + y < 2 ^ (k.bits - 1)) :
  bits .or k (x * 2 ^ j) y = x * 2 ^ j + y := by
 obtain ⟨a, rfl⟩ := Int.eq_ofNat_of_zero_le hx
 obtain ⟨b, rfl⟩ := Int.eq_ofNat_of_zero_le hy
 have hb : b < 2 ^ j := by exact_mod_cast hy'
 have e : ((a : Int) * 2 ^ j) = ((a * 2 ^ j : Nat) : Int) := by norm_cast
 have h1' : a * 2 ^ j + b < 2 ^ k.bits := by exact_mod_cast h1
 have hs' : k.signed = true -> a * 2 ^ j + b < 2 ^ (k.bits - 1) := fun h => by exact_mod_cast hs h
 rw [e, bits_or_nat k _ b (by omega) (by omega) (fun h => by have := hs' h; omega)]
 have : a * 2 ^ j ||| b = a * 2 ^ j + b := by
  rw [<- Nat.shiftLeft_eq, Nat.shiftLeft_add_eq_or_of_lt hb]
 rw [this]; norm_cast

theorem bits_not (k : IntKind) (x : Int) (hk : k.signed = false) (h0 : 0 <= x) (h1 : x < 2 ^ k.bits) : bits .xor k (2 ^ k.bits - 1) x = 2 ^ k.bits - 1 - x := by
 obtain ⟨n, rfl⟩ := Int.eq_ofNat_of_zero_le h0
 have hn : n < 2 ^ k.bits := by exact_mod_cast h1
 have h2 := ofInt_nat k.bits n hn
 have ho : BitVec.ofInt k.bits (2 ^ k.bits - 1) = BitVec.allOnes k.bits := by
  apply BitVec.eq_of_toNat_eq
  have e : ((2 : Int) ^ k.bits - 1) = ((2 ^ k.bits - 1 : Nat) : Int) := by
   rw [Int.ofNat_sub (Nat.one_le_two_pow)]; norm_cast
  rw [e, ofInt_nat _ _ (by omega), BitVec.toNat_allOnes]
 show k.wrap ((BitVec.ofInt k.bits (2 ^ k.bits - 1) ^^^ BitVec.ofInt k.bits (n : Int)).toNat : Int) = _
 rw [ho, BitVec.allOnes_xor, BitVec.toNat_not, h2, wrap_nat k _ (by omega) (fun h => by rw [hk] at h; cases h)]
 rw [Nat.sub_sub, Int.ofNat_sub (by omega)]
 push_cast
 omega

theorem not_u16 (x : Int) (h0 : 0 <= x) (h1 : x <= 65535) : bits .xor .u16 IntKind.u16.max x = 65535 - x := bits_not .u16 x rfl h0 (by show x < 65536; omega)
theorem not_u64 (x : Int) (h0 : 0 <= x) (h1 : x <= 18446744073709551615) : bits .xor .u64 IntKind.u64.max x = 18446744073709551615 - x := bits_not .u64 x rfl h0 (by show x < 18446744073709551616; omega)

end Go.Proofs.YthkhikdglmaiaaaGreatDoor.Bits
namespace Go.Proofs.YthkhikdglmaiaaaGreatDoor.X
open Go Go.RowKit Go.Proofs.YthkhikdglmaiaaaGreatDoor.Abs Go.Proofs.YthkhikdglmaiaaaGreatDoor.Bits
set_option linter.unusedVariables false
set_option linter.unusedSimpArgs false
theorem wrap8u (x : Int) : IntKind.u8.wrap x = x % 256 := by
 simp only [IntKind.wrap, IntKind.bits, IntKind.signed]
 simp
theorem wrap16u (x : Int) : IntKind.u16.wrap x = x % 65536 := by
 simp only [IntKind.wrap, IntKind.bits, IntKind.signed]
 simp
theorem wrap32u (x : Int) : IntKind.u32.wrap x = x % 4294967296 := by
 simp only [IntKind.wrap, IntKind.bits, IntKind.signed]
 simp
theorem wrap64u (x : Int) : IntKind.u64.wrap x = x % 18446744073709551616 := by
 simp only [IntKind.wrap, IntKind.bits, IntKind.signed]
 simp
theorem fdiv_pos (x : Int) {y : Int} (h : 0 <= y) : x.fdiv y = x / y := Int.fdiv_eq_ediv_of_nonneg _ h
theorem fdiv8 (x : Int) : x.fdiv ((2 : Int) ^ (8 : Nat)) = x / 256 := fdiv_pos x (by decide)
theorem fdiv16 (x : Int) : x.fdiv ((2 : Int) ^ (16 : Nat)) = x / 65536 := fdiv_pos x (by decide)
theorem u8n (b : UInt8) : b.toNat < 256 := UInt8.toNat_lt b
def byteOf (x : Int) : UInt8 := UInt8.ofNat (x % 256).toNat
theorem byteOf_nat (x : Int) : ((byteOf x).toNat : Int) = x % 256 := by
 unfold byteOf
 rw [UInt8.toNat_ofNat']; omega
theorem byteOf_self (b : UInt8) : byteOf (b.toNat : Int) = b := by
 have h := u8n b
 apply UInt8.toNat_inj.1
 have := byteOf_nat (b.toNat : Int)
 omega
def wd (x : Int) : List UInt8 := [byteOf (x / 256), byteOf x]
@[simp] theorem wd_len (x : Int) : (wd x).length = 2 := rfl
def wv (a b : UInt8) : Int := (a.toNat : Int) * 256 + (b.toNat : Int)
theorem wv_bound (a b : UInt8) : 0 <= wv a b /\ wv a b <= 65535 := by
 have := u8n a; have := u8n b; unfold wv; omega
theorem wv_wd (x : Int) : wv (byteOf (x / 256)) (byteOf x) = x % 65536 := by
 unfold wv; rw [byteOf_nat, byteOf_nat]; omega
def wAt (l : List UInt8) (i : Nat) : Int := wv (l.getD i 0) (l.getD (i + 1) 0)
theorem wAt_bound (l : List UInt8) (i : Nat) : 0 <= wAt l i /\ wAt l i <= 65535 := wv_bound _ _
theorem wAt_app_left (l k : List UInt8) (i : Nat) (h : i + 1 < l.length) : wAt (l ++ k) i = wAt l i := by
 unfold wAt
 rw [List.getD_eq_getElem?_getD, List.getD_eq_getElem?_getD, List.getD_eq_getElem?_getD, List.getD_eq_getElem?_getD, List.getElem?_append_left (by omega), List.getElem?_append_left h]
theorem wAt_app_right (l k : List UInt8) (i : Nat) (h : l.length <= i) : wAt (l ++ k) i = wAt k (i - l.length) := by
 unfold wAt
 rw [List.getD_eq_getElem?_getD, List.getD_eq_getElem?_getD, List.getD_eq_getElem?_getD, List.getD_eq_getElem?_getD, List.getElem?_append_right h, List.getElem?_append_right (by omega), show i + 1 - l.length = i - l.length + 1 by omega]
def lAt (l : List UInt8) (i : Nat) : Int := wAt l i * 65536 + wAt l (i + 2)
theorem lAt_bound (l : List UInt8) (i : Nat) : 0 <= lAt l i /\ lAt l i <= 4294967295 := by
 have := wAt_bound l i; have := wAt_bound l (i + 2); unfold lAt; omega
def lg (x : Int) : List UInt8 := wd (x / 65536) ++ wd x
@[simp] theorem lg_len (x : Int) : (lg x).length = 4 := rfl
theorem or_i64 (a b : UInt8) : bits .or .i64 (IntKind.i64.wrap (IntKind.i64.wrap (a.toNat : Int) * (2 : Int) ^ (8 : Nat))) (IntKind.i64.wrap (b.toNat : Int)) = wv a b := by
 have h1 := u8n a; have h2 := u8n b
 have e1 : IntKind.i64.wrap (a.toNat : Int) = a.toNat := wrapI64 ⟨by omega, by omega⟩
 have e2 : IntKind.i64.wrap (b.toNat : Int) = b.toNat := wrapI64 ⟨by omega, by omega⟩
 have e3 : IntKind.i64.wrap ((a.toNat : Int) * 2 ^ 8) = (a.toNat : Int) * 2 ^ 8 := wrapI64 ⟨by omega, by omega⟩
 rw [e1, e2, e3, bits_or_disjoint .i64 8 a.toNat b.toNat (by omega) (by omega) (by omega) (by show _ < (2 : Int) ^ 64; omega) (fun _ => by show _ < (2 : Int) ^ 63; omega)]
 unfold wv; omega
theorem or_u64 (a b : UInt8) : bits .or .u64 (IntKind.u64.wrap (IntKind.u64.wrap (a.toNat : Int) * (2 : Int) ^ (8 : Nat))) (IntKind.u64.wrap (b.toNat : Int)) = wv a b := by
 have h1 := u8n a; have h2 := u8n b
 rw [wrap64u, wrap64u, wrap64u]
 have e1 : ((a.toNat : Int) % 18446744073709551616 * 2 ^ 8) % 18446744073709551616 = (a.toNat : Int) * 2 ^ 8 := by omega
 have e2 : (b.toNat : Int) % 18446744073709551616 = b.toNat := by omega
 rw [e1, e2, bits_or_disjoint .u64 8 a.toNat b.toNat (by omega) (by omega) (by omega) (by show _ < (2 : Int) ^ 64; omega) (fun h => by cases h)]
 unfold wv; omega
theorem or_u16 (a b : UInt8) : bits .or .u16 (IntKind.u16.wrap (IntKind.u16.wrap (a.toNat : Int) * (2 : Int) ^ (8 : Nat))) (IntKind.u16.wrap (b.toNat : Int)) = wv a b := by
 have h1 := u8n a; have h2 := u8n b
 rw [wrap16u, wrap16u, wrap16u]
 have e1 : ((a.toNat : Int) % 65536 * 2 ^ 8) % 65536 = (a.toNat : Int) * 2 ^ 8 := by omega
 have e2 : (b.toNat : Int) % 65536 = b.toNat := by omega
 rw [e1, e2, bits_or_disjoint .u16 8 a.toNat b.toNat (by omega) (by omega) (by omega) (by show _ < (2 : Int) ^ 16; omega) (fun h => by cases h)]
 unfold wv; omega

def ws : List UInt8 -> Nat
 | [] => 0
 | [a] => a.toNat * 256
 | a :: b :: r => a.toNat * 256 + b.toNat + ws r
theorem ws_cons2 (a b : UInt8) (r : List UInt8) : (ws (a :: b :: r) : Int) = wv a b + ws r := by
 simp only [ws, wv]; omega
def ear (n : Nat) : Nat := if n = 0 then 0 else (n - 1) % 65535 + 1
theorem ear_le (n : Nat) : ear n <= 65535 := by unfold ear; split <;> omega
theorem ear_small (n : Nat) (h : n <= 65535) : ear n = n := by unfold ear; split <;> omega
theorem ear_mod (n : Nat) : ear n % 65535 = n % 65535 := by unfold ear; split <;> omega
theorem ear_full (n : Nat) : ear n = 65535 ↔ (n ≠ 0 /\ n % 65535 = 0) := by unfold ear; split <;> omega
theorem ear_round (n : Nat) : ear (n / 65536 + n % 65536) = ear n := by unfold ear; split <;> split <;> omega
theorem ev_opt {α β : Type} {o : Option β} {k : β -> Tr α} {b : β} {r : Option α} (h : o = some b) (h2 : (k b).eval = r) : (Tr.opt o k).eval = r := by rw [h]; exact h2
theorem ev_t {α : Type} {c : Bool} {t e : Tr α} {r : Option α} (h : c = true) (h2 : t.eval = r) : (Tr.ite c t e).eval = r := by rw [h]; exact h2
theorem ev_f {α : Type} {c : Bool} {t e : Tr α} {r : Option α} (h : c = false) (h2 : e.eval = r) : (Tr.ite c t e).eval = r := by rw [h]; exact h2
theorem ev_g {α : Type} {c : Bool} {t : Tr α} {r : Option α} (h : c = true) (h2 : t.eval = r) : (Tr.grd c t).eval = r := by rw [h]; exact h2
theorem ev_ite {α : Type} {c : Bool} {t e : Tr α} {r : Option α} (h1 : c = true -> t.eval = r) (h2 : c = false -> e.eval = r) : (Tr.ite c t e).eval = r := by
 cases c
 . exact h2 rfl
 . exact h1 rfl
theorem ev_r {α : Type} {a b : α} (h : a = b) : (Tr.ret a).eval = some b := by rw [h]; rfl

def hit {T : Type} (p : T -> Bool) : List T -> Option (Nat × T)
 | [] => none
 | x :: r => match p x with
  | true => some (0, x)
  | false => (hit p r).map fun q => (q.1 + 1, q.2)
theorem hit_at {T : Type} {p : T -> Bool} : ∀ {l : List T} {i : Nat} {x : T}, hit p l = some (i, x) -> l[i]? = some x /\ p x = true
 | [], i, x, h => by cases h
 | y :: r, i, x, h => by
  simp only [hit] at h
  split at h
  . rename_i e; cases h; exact ⟨rfl, e⟩
  . obtain ⟨q, hq, e⟩ := Option.map_eq_some_iff.1 h
    cases e
    obtain ⟨h1, h2⟩ := hit_at (x := q.2) (i := q.1) hq
    exact ⟨by simpa using h1, h2⟩
theorem hit_none {T : Type} {p : T -> Bool} : ∀ {l : List T}, hit p l = none ↔ ∀ x ∈ l, p x = false
 | [] => by simp [hit]
 | y :: r => by
  simp only [hit, List.mem_cons, forall_eq_or_imp]
  cases e : p y with
  | true => simp
  | false => simp [hit_none (l := r)]
theorem hit_app {T : Type} (p : T -> Bool) : ∀ (a b : List T), hit p (a ++ b) = (hit p a).or ((hit p b).map fun q => (q.1 + a.length, q.2))
 | [], b => by simp [hit]
 | x :: a, b => by
  simp only [List.cons_append, hit, hit_app p a b]
  cases p x with
  | true => rfl
  | false =>
   cases h1 : hit p a with
   | some q => rfl
   | none =>
    cases h2 : hit p b with
    | none => rfl
    | some q => simp [Nat.add_assoc, Nat.add_comm]
theorem hit_lt {T : Type} {p : T -> Bool} {l : List T} {i : Nat} {x : T} (h : hit p l = some (i, x)) : i < l.length := by
 have := (hit_at h).1
 exact (List.getElem?_eq_some_iff.1 this).1
def fst {T : Type} (p : T -> Bool) (l : List T) : Option T := (hit p l).map (·.2)
theorem fst_app {T : Type} (p : T -> Bool) (a b : List T) : fst p (a ++ b) = (fst p a).or (fst p b) := by
 unfold fst
 rw [hit_app]
 cases hit p a <;> simp [Function.comp_def]
theorem fst_cons {T : Type} (p : T -> Bool) (x : T) (l : List T) : fst p (x :: l) = match p x with | true => some x | false => fst p l := by
 unfold fst
 simp only [hit]
 cases p x <;> simp [Function.comp_def]

theorem loop_hit {A B T : Type} {tag : Nat} {f : A -> Option (A ⊕ B)} {l : List T} (st : Nat -> A) (p : T -> Bool) (out : Option (Nat × T) -> B)
  (h1 : ∀ (i : Nat) (x : T), l[i]? = some x -> f (st i) = match p x with | true => some (.inr (out (some (i, x)))) | false => some (.inl (st (i + 1))))
  (h2 : f (st l.length) = some (.inr (out none))) (n : Nat) (hn : l.length < n) : loopO tag f n (st 0) = some (out (hit p l)) := by
 have key : ∀ (r : List T) (k n : Nat), l.drop k = r -> k <= l.length -> r.length < n -> loopO tag f n (st k) = some (out ((hit p r).map fun q => (q.1 + k, q.2))) := by
  intro r
  induction r with
  | nil =>
   intro k n hk hle hn
   obtain ⟨n, rfl⟩ : ∃ m, n = m + 1 := ⟨n - 1, by simp at hn; omega⟩
   have : k = l.length := by have := congrArg List.length hk; simp at this; omega
   subst this
   exact loopO_out h2
  | cons x r ih =>
   intro k n hk hle hn
   obtain ⟨n, rfl⟩ : ∃ m, n = m + 1 := ⟨n - 1, by simp at hn; omega⟩
   have hx : l[k]? = some x := by have := congrArg (·[0]?) hk; simpa using this
   have hk2 : l.drop (k + 1) = r := by rw [<- List.drop_drop, hk]; rfl
   have := h1 k x hx
   simp only [hit]
   cases hp : p x with
   | true => rw [hp] at this; rw [loopO_out this]; simp
   | false =>
    rw [hp] at this
    have hlt := (List.getElem?_eq_some_iff.1 hx).1
    rw [loopO_in this, ih (k + 1) n hk2 (by omega) (by simp at hn; omega)]
    cases hit p r with
    | none => rfl
    | some q => simp only [Option.map_some]; rw [show q.1 + (k + 1) = q.1 + 1 + k by omega]
 have := key l 0 n rfl (by omega) hn
 rw [this]
 cases hit p l <;> rfl
theorem cond_and (b x : Bool) : (cond b (some (x, ())) (some (false, ())) : Option (Bool × Unit)) = some (b && x, ()) := by cases b <;> rfl
theorem cond_or (a b x : Bool) : (cond a (some (x, ())) (some (b && x, ())) : Option (Bool × Unit)) = some ((a || b) && x, ()) := by cases a <;> rfl
theorem next_i64 (i : Nat) (h : (i : Int) + 1 < 9223372036854775808) : IntKind.wrap IntKind.i64 ((i : Int) + (1 : Int)) = ((i + 1 : Nat) : Int) := by
 have := wrap_nat .i64 (i + 1) (by show i + 1 < 2 ^ 64; omega) (fun _ => by show i + 1 < 2 ^ 63; omega)
 simpa using this
theorem prev_i64 (i : Nat) (h : 0 < i) (h2 : i < 9223372036854775808) : IntKind.wrap IntKind.i64 ((i : Int) - (1 : Int)) = ((i - 1 : Nat) : Int) := by
 have := wrap_nat .i64 (i - 1) (by show i - 1 < 2 ^ 64; omega) (fun _ => by show i - 1 < 2 ^ 63; omega)
 rw [<- this]; congr 1; omega
theorem del_eq {α : Type} (l : List α) (i j : Nat) (hij : i <= j) (hj : j <= l.length) (X Y Z : List α) :
  List.take (i + (List.take (l.length - j) (List.drop j l)).length) (List.take (i + (List.take (l.length - j) (List.drop j l)).length) (List.take i l ++ List.take (l.length - j) (List.drop j l) ++ X) ++ Y ++ Z) = l.take i ++ l.drop j := by
 have hB : List.take (l.length - j) (List.drop j l) = List.drop j l := List.take_of_length_le (by simp)
 rw [hB]
 have hl : (List.take i l ++ List.drop j l).length = i + (List.drop j l).length := by simp; omega
 rw [<- hl, List.take_left' rfl, List.append_assoc, List.take_left' rfl]
end Go.Proofs.YthkhikdglmaiaaaGreatDoor.X
namespace Go.Proofs.YthkhikdglmaiaaaGreatDoor.Abs
open Go Go.RowKit Go.Proofs.YthkhikdglmaiaaaGreatDoor.Read
set_option linter.unusedVariables false
def ShAll (Q : TypeId -> List D -> Prop) : List TypeId -> List D -> Prop
 | [], ds => ds = []
 | t :: r, ds => ∃ a b, ds = a ++ b /\ Q t a /\ ShAll Q r b

def Sh (P : Program) : Nat -> TypeId -> List D -> Prop
 | 0, _, _ => False
 | n + 1, t, ds => match P.underlying t with
  | some .bool => ∃ b, ds = [.b b]
  | some (.int k) => ∃ x, ds = [.i k x] /\ k.min <= x /\ x <= k.max
  | some .string => ∃ l : List UInt8, ds = [.s l] /\ l.length <= 140737488351232
  | some (.struct fs) => ShAll (Sh P n) (fs.toList.map (·.type)) ds
  | some (.array m e) => ShAll (Sh P n) (List.replicate m e) ds
  | some (.slice e) => ∃ rows, ds = [.sl (P.cellsOf e) rows] /\ rows.length <= maxLen /\ rows.length * P.bytesOf e <= 140737488351232 /\ ∀ r ∈ rows, Sh P n e r
  | _ => False

def contig (P : Program) : List Field -> Nat -> Option Nat
 | [], o => some o
 | f :: r, o => if f.offset = o then contig P r (o + P.cellsOf f.type) else none

def okT (P : Program) : Nat -> TypeId -> Bool
 | 0, _ => false
 | n + 1, t => match P.underlying t with
  | some .bool | some (.int _) | some .string => true
  | some (.struct fs) => contig P fs.toList 0 == some (P.cellsOf t) && fs.toList.all (fun f => okT P n f.type)
  | some (.array m e) => P.cellsOf t == m * P.cellsOf e && okT P n e
  | some (.slice e) => decide (0 < P.cellsOf e) && okT P n e
  | _ => false

def RepAll (w : World) (U : Nat -> Prop) : List Value -> List D -> Prop
 | [], [] => True
 | v :: r, d :: q => RepI w U v d /\ RepAll w U r q
 | _, _ => False
theorem RepAll.length {w : World} {U : Nat -> Prop} : ∀ {l : List Value} {q : List D}, RepAll w U l q -> l.length = q.length
 | [], [], _ => rfl
 | v :: r, d :: q, h => by simp [RepAll.length h.2]
 | [], d :: q, h => h.elim
 | v :: r, [], h => h.elim
theorem RepAll.app {w : World} {U : Nat -> Prop} : ∀ {l l2 : List Value} {q q2 : List D}, RepAll w U l q -> RepAll w U l2 q2 -> RepAll w U (l ++ l2) (q ++ q2)
 | [], l2, [], q2, _, h2 => h2
 | v :: r, l2, d :: q, q2, h, h2 => ⟨h.1, RepAll.app h.2 h2⟩
 | [], l2, d :: q, q2, h, h2 => h.elim
 | v :: r, l2, [], q2, h, h2 => h.elim
theorem RepAll.at {w : World} {U : Nat -> Prop} : ∀ {l : List Value} {q : List D}, RepAll w U l q -> ∀ (j : Nat) v d, l[j]? = some v -> q[j]? = some d -> RepI w U v d
 | v :: r, d :: q, h, 0, v', d', h1, h2 => by simp at h1 h2; subst h1; subst h2; exact h.1
 | v :: r, d :: q, h, j + 1, v', d', h1, h2 => RepAll.at h.2 j v' d' (by simpa using h1) (by simpa using h2)
 | [], [], h, j, v', d', h1, h2 => by simp at h1
 | [], d :: q, h, j, v', d', h1, h2 => h.elim
 | v :: r, [], h, j, v', d', h1, h2 => h.elim

theorem struct_all {P : Program} {w : World} {U : Nat -> Prop} {cs : List Value} {n : Nat} (ih : ∀ t l, okT P n t = true -> Rd P w t l -> ∃ ds, RepAll w U l ds /\ Sh P n t ds) :
  ∀ (fs : List Field) (o tot : Nat), contig P fs o = some tot -> tot = cs.length -> (∀ f ∈ fs, okT P n f.type = true /\ Rd P w f.type ((cs.drop f.offset).take (P.cellsOf f.type))) ->
    ∃ ds, RepAll w U (cs.drop o) ds /\ ShAll (Sh P n) (fs.map (·.type)) ds
 | [], o, tot, h, ht, _ => by
  simp only [contig, Option.some.injEq] at h
  subst h; subst ht
  exact ⟨[], by simp [RepAll], rfl⟩
 | f :: r, o, tot, h, ht, hf => by
  unfold contig at h
  split at h
  . rename_i e
    obtain ⟨h1, h2⟩ := hf f List.mem_cons_self
    obtain ⟨d1, k1, k2⟩ := ih _ _ h1 h2
    obtain ⟨d2, k3, k4⟩ := struct_all ih r _ tot h ht fun g hg => hf g (List.mem_cons_of_mem _ hg)
    refine ⟨d1 ++ d2, ?_, d1, d2, rfl, k2, k4⟩
    have := k1.app k3
    rw [e, <- List.drop_drop, List.take_append_drop] at this
    exact this
  . cases h

theorem array_all {P : Program} {w : World} {U : Nat -> Prop} {cs : List Value} {n : Nat} {e : TypeId} (ih : ∀ l, Rd P w e l -> ∃ ds, RepAll w U l ds /\ Sh P n e ds) :
  ∀ (m k : Nat), (k + m) * P.cellsOf e = cs.length -> (∀ i, i < k + m -> Rd P w e ((cs.drop (i * P.cellsOf e)).take (P.cellsOf e))) ->
   ∃ ds, RepAll w U (cs.drop (k * P.cellsOf e)) ds /\ ShAll (Sh P n) (List.replicate m e) ds
 | 0, k, h, _ => ⟨[], by rw [List.drop_eq_nil_of_le (by rw [<- h]; exact Nat.le_refl _)]; trivial, rfl⟩
 | m + 1, k, h, hf => by
  obtain ⟨d1, k1, k2⟩ := ih _ (hf k (by omega))
  obtain ⟨d2, k3, k4⟩ := array_all ih m (k + 1) (by rw [<- h]; congr 1; omega) fun i hi => hf i (by omega)
  refine ⟨d1 ++ d2, ?_, d1, d2, rfl, k2, k4⟩
  have := k1.app k3
  rw [show (k + 1) * P.cellsOf e = k * P.cellsOf e + P.cellsOf e by rw [Nat.succ_mul], <- List.drop_drop, List.take_append_drop] at this
  exact this


theorem bounds_wf {k : IntKind} {x : Int} (h : (Lit.int k x).wf = true) : k.min <= x /\ x <= k.max := by
 cases k <;> (simp only [Lit.wf, Bool.and_eq_true, decide_eq_true_eq] at h; exact h)

theorem rd_rep {P : Program} {w : World} {U : Nat -> Prop} (hU : ∀ b, b < w.heap.size -> U b) : ∀ (n : Nat) (t : TypeId) (cs : List Value), okT P n t = true -> Rd P w t cs -> ∃ ds, RepAll w U cs ds /\ Sh P n t ds
 | 0, t, cs, h, _ => by simp [okT] at h
 | n + 1, t, cs, h, hr => by
  unfold okT at h
  split at h
  . rename_i ht
    obtain ⟨b, rfl⟩ := hr.bool ht
    simp only [Sh, ht]
    exact ⟨[.b b], ⟨.b b, trivial⟩, b, rfl⟩
  . rename_i k ht
    obtain ⟨x, rfl, hx⟩ := hr.int ht
    simp only [Sh, ht]
    exact ⟨[.i k x], ⟨.i k x, trivial⟩, x, rfl, bounds_wf hx⟩
  . rename_i ht
    obtain ⟨s, rfl, hs⟩ := hr.string ht
    simp only [Sh, ht]
    refine ⟨[.s s.data.toList], ⟨?_, trivial⟩, _, rfl, by rw [Array.length_toList]; exact hs⟩
    exact RepI.s s.data.toList
  . rename_i fs ht
    simp only [Sh, ht]
    simp only [Bool.and_eq_true, beq_iff_eq, List.all_eq_true] at h
    obtain ⟨hl, hf⟩ := hr.struct ht
    obtain ⟨ds, h1, h2⟩ := struct_all (U := U) (n := n) (fun t l => rd_rep hU n t l) fs.toList 0 _ h.1 hl.symm fun f hf' => by
      obtain ⟨i, hi, rfl⟩ := List.getElem_of_mem hf'
      exact ⟨h.2 _ (List.getElem_mem _), hf i _ (by simp)⟩
    exact ⟨ds, h1, h2⟩
  . rename_i m e ht
    simp only [Sh, ht]
    simp only [Bool.and_eq_true, beq_iff_eq] at h
    obtain ⟨hl, hf⟩ := hr.array ht
    obtain ⟨ds, h1, h2⟩ := array_all (U := U) (n := n) (fun l => rd_rep hU n e l h.2) m 0 (by rw [hl, h.1, Nat.zero_add]) fun i hi => hf i (by omega)
    exact ⟨ds, by simpa using h1, h2⟩
  . rename_i e ht
    simp only [Sh, ht]
    obtain ⟨a, len, cap, rfl, hlc, hcm, hcb, hn, hx⟩ := hr.slice ht
    have hb : ∀ l : Nat, l <= cap -> l * P.bytesOf e <= 140737488351232 := fun l hl => Nat.le_trans (Nat.mul_le_mul_right _ hl) hcb
    by_cases h0 : len = 0
    . subst h0
      exact ⟨[.sl (P.cellsOf e) []], ⟨.nil a cap _ hn, trivial⟩, [], rfl, by simp, by simp, by simp⟩
    . cases a with
      | none => have := hn rfl; omega
      | some x =>
       obtain ⟨vals, hvl, hv⟩ := exists_list (P := fun i (p : List Value × List D) => w.cells? 0 (x.add (i * P.cellsOf e)) (P.cellsOf e) = some p.1 /\ RepAll w U p.1 p.2 /\ Sh P n e p.2) len fun i hi => by
         obtain ⟨row, h1, h2⟩ := hx x rfl i (by omega)
         obtain ⟨ds, h3, h4⟩ := rd_rep hU n e row (by simp at h; exact h.2) h2
         exact ⟨(row, ds), h1, h3, h4⟩
       refine ⟨[.sl (P.cellsOf e) (vals.map (·.2))], ⟨?_, trivial⟩, _, rfl, by simp; omega, by simp only [List.length_map, hvl]; exact hb len hlc, ?_⟩
       . by_cases hz : P.cellsOf e = 0
         . simp [hz] at h
         . have hx0 := hv 0 (by omega)
           obtain ⟨q1, q2⟩ := cells_at hx0.1
           obtain ⟨q3, q4⟩ := spot_none (q2 0 (by omega))
           obtain ⟨b, o, sp⟩ := x
           have hsp : sp = none /\ b < w.heap.size := by
             rw [Nat.zero_mul] at q3 q4
             unfold Addr.add at q3 q4
             simp at q3 q4
             exact ⟨q3, q4⟩
           obtain ⟨rfl, hb2⟩ := hsp
           have := RepI.sl (w := w) (U := U) b o cap (P.cellsOf e) (vals.map (·.2)) (fun i j => ((vals[i]?).bind fun p => p.1[j]?).getD undef) (hU b hb2)
           rw [List.length_map, hvl] at this
           refine this ?_ hlc ?_ ?_
           . intro r hr'
             obtain ⟨p, hp, rfl⟩ := List.mem_map.1 hr'
             obtain ⟨i, hi, rfl⟩ := List.getElem_of_mem hp
             rw [<- (hv i hi).2.1.length, (cells_at (hv i hi).1).1]
           . intro i j r d h1 h2
             rw [List.getElem?_map, Option.map_eq_some_iff] at h1
             obtain ⟨p, hp, rfl⟩ := h1
             obtain ⟨hi, rfl⟩ := List.getElem?_eq_some_iff.1 hp
             obtain ⟨k1, k2, k3⟩ := hv i hi
             obtain ⟨m1, m2⟩ := cells_at k1
             obtain ⟨hj, -⟩ := List.getElem?_eq_some_iff.1 h2
             have hj' : j < (vals[i]).1.length := by rw [k2.length]; exact hj
             have := m2 j hj'
             rw [add_none, add_none] at this
             rw [hp]
             simp only [Option.bind_some]
             rw [List.getElem?_eq_getElem hj', Option.getD_some]
             exact this
           . intro i j r d h1 h2
             rw [List.getElem?_map, Option.map_eq_some_iff] at h1
             obtain ⟨p, hp, rfl⟩ := h1
             obtain ⟨hi, rfl⟩ := List.getElem?_eq_some_iff.1 hp
             obtain ⟨k1, k2, k3⟩ := hv i hi
             obtain ⟨hj, -⟩ := List.getElem?_eq_some_iff.1 h2
             have hj' : j < (vals[i]).1.length := by rw [k2.length]; exact hj
             rw [hp]
             simp only [Option.bind_some]
             rw [List.getElem?_eq_getElem hj', Option.getD_some]
             exact k2.at j _ d (List.getElem?_eq_getElem hj') h2
       . intro r hr'
         obtain ⟨p, hp, rfl⟩ := List.mem_map.1 hr'
         obtain ⟨i, hi, rfl⟩ := List.getElem_of_mem hp
         exact (hv i hi).2.2
  . cases h

def RepArgs (w : World) (us : List Value) (ys : List V) : Prop := us.length = ys.length /\ ∀ (j : Nat) u y, us[j]? = some u -> ys[j]? = some y -> RepV w (fun _ => none) (fun b => b < w.heap.size) w.heap.size u y
theorem RepArgs.nil {w : World} : RepArgs w [] [] := ⟨rfl, fun j u y h => by simp at h⟩
theorem RepArgs.cons {w : World} {u : Value} {y : V} {us : List Value} {ys : List V} (h : RepV w (fun _ => none) (fun b => b < w.heap.size) w.heap.size u y) (hr : RepArgs w us ys) : RepArgs w (u :: us) (y :: ys) := by
 refine ⟨by simp [hr.1], fun j u' y' h1 h2 => ?_⟩
 cases j with
 | zero => simp at h1 h2; subst h1; subst h2; exact h
 | succ j => exact hr.2 j u' y' (by simpa using h1) (by simpa using h2)

theorem RepArgs.agg {w : World} {cs : Array Value} {ds : List D} {us : List Value} {ys : List V} (h : RepAll w (fun b => b < w.heap.size) cs.toList ds) (hr : RepArgs w us ys) : RepArgs w (.agg cs :: us) (.agg (ds.map C.d) :: ys) := by
 refine hr.cons ?_
 have := RepV.agg (w := w) (β := fun _ => none) (U := fun b => b < w.heap.size) (base := w.heap.size) cs.toList (ds.map C.d) (by rw [h.length, List.length_map]) ?_ ?_
 . exact this
 . intro u hu
   obtain ⟨j, hj, rfl⟩ := List.getElem_of_mem hu
   have hj2 : j < ds.length := by rw [<- h.length]; exact hj
   exact (h.at j _ _ (List.getElem?_eq_getElem hj) (List.getElem?_eq_getElem hj2)).oneCell
 . intro j u c hu hc
   rw [List.getElem?_map, Option.map_eq_some_iff] at hc
   obtain ⟨d, hd, rfl⟩ := hc
   exact h.at j u d hu hd
theorem RepArgs.one {w : World} {v : Value} {d : D} {us : List Value} {ys : List V} (h : RepI w (fun b => b < w.heap.size) v d) (hr : RepArgs w us ys) : RepArgs w (v :: us) (vd d :: ys) := hr.cons (.one _ _ h)
theorem RepArgs.s {w : World} {s : ByteArray} {us : List Value} {ys : List V} (hr : RepArgs w us ys) : RepArgs w (.string s :: us) (Abs.vs s.data.toList :: ys) := hr.one (.s s.data.toList)
theorem RepArgs.i {w : World} {k : IntKind} {n : Int} {us : List Value} {ys : List V} (hr : RepArgs w us ys) : RepArgs w (.int k n :: us) (vi k n :: ys) := hr.one (.i k n)
theorem RepArgs.b {w : World} {x : Bool} {us : List Value} {ys : List V} (hr : RepArgs w us ys) : RepArgs w (.bool x :: us) (vb x :: ys) := hr.one (.b x)

theorem glob_of {w : World} (h : ∀ e ∈ globs, ∃ x y, w.heap[e.1]? = some (.cells e.2 x y)) (h2 : ∀ g ∈ gints, g < w.heap.size /\ ∃ m, w.cell? ⟨g, 0, none⟩ = some (.int .i64 m)) : Glob (fun b => b < w.heap.size) w := by
 refine ⟨fun e he => ?_, h2⟩
 obtain ⟨x, y, hx⟩ := h e he
 exact ⟨(Array.getElem?_eq_some_iff.1 hx).1, x, y, hx⟩
theorem law_calls {P : Program} {f : FuncId} {ys : List V} {w : World} {us : Array Value} (h : AFn P f ys (vb true)) (hr : RepArgs w us.toList ys) (hn : decide (ys.length <= 900) = true) (hgl : Glob (fun b => b < w.heap.size) w) : Calls P f us w fun e w' => e = .returned (.bool true) /\ Below w.heap.size w w' := by
 have h0 : SimB w (fun b => b < w.heap.size) (fun _ _ => False) (fun _ => none) (fun _ => none) (fun b => b < w.heap.size) ⟨ys.length, argsEnv 0 ys, []⟩ ⟨us, []⟩ w := by
  refine { n := by simpa using hr.1, small := of_decide_eq_true hn, args := fun _ _ => rfl, ver0 := (fun k v ver e => by cases e), hist := (fun k p e => by cases e), defers := rfl, env := fun t => ?_, mem := (fun k b e => by cases e), dom := (fun k p e => by cases e), apart := (fun k p b e => by cases e), inj := (fun k k' p p' b b' x j _ e => by cases e), stab := fun b h => h, glob := hgl, old := fun b h => h, new := fun b h _ => h, chg := Chg.refl _ _ _, may := (fun k p b c j e => by cases e) }
  show RepV _ _ _ _ _ ((look t (argsEnv 0 ys)).getD (.one .bad))
  rw [look_argsEnv, if_pos (Nat.zero_le _), Nat.sub_zero]
  cases hy : ys[t]? with
  | none => exact .one _ _ trivial
  | some y =>
   have ht : t < ys.length := (List.getElem?_eq_some_iff.1 hy).1
   have ht2 : t < us.toList.length := by rw [hr.1]; exact ht
   have := hr.2 t _ y (List.getElem?_eq_getElem ht2) hy
   have e : us.getD t undef = us.toList[t] := by simp only [Array.length_toList] at ht2; simp [Array.getD, ht2]
   rw [e]; exact this
 refine (h w _ _ _ us h0).mono ?_
 rintro e w' ⟨v, r, m', rfl, ⟨rfl, rfl⟩, β, U, hs⟩
 have := hs.env 0
 refine ⟨?_, hs.chg.below fun _ _ h => h⟩
 have e : (⟨1, [(0, vb true)], []⟩ : St).get 0 = vb true := rfl
 rw [e] at this
 have hv := this.bool
 simp at hv
 subst hv; rfl
set_option linter.unusedSimpArgs false
def PD.same : PD -> PD -> Bool
 | .i k, .i k' => decide (k = k')
 | .b, .b => true
 | .s, .s => true
 | .st c, .st c' => Nat.beq c c'
 | _, _ => false
def pdsSame : List PD -> List PD -> Bool
 | [], [] => true
 | p :: ps, q :: qs => p.same q && pdsSame ps qs
 | _, _ => false
theorem same_eq {p q : PD} (h : p.same q = true) : p = q := by
 cases p <;> cases q <;> first | rfl | (cases h; done) | (simp only [PD.same, decide_eq_true_eq] at h; rw [h]) | exact congrArg PD.st (Nat.eq_of_beq_eq_true h)
theorem pdsSame_eq : ∀ {l m : List PD}, pdsSame l m = true -> l = m
 | [], [], _ => rfl
 | p :: ps, q :: qs, h => by
  simp only [pdsSame, Bool.and_eq_true] at h
  rw [same_eq h.1, pdsSame_eq h.2]
 | [], _ :: _, h => by cases h
 | _ :: _, [], h => by cases h
def pdsE : Nat -> List PD
 | 0 => [.i .i64]
 | 1 => [.b]
 | 2 => [.i .u8]
 | 3 => [.s]
 | 4 => [.i .i64, .s]
 | 5 => [.i .i64, .s, .b]
 | 6 => [.i .u32, .i .u32, .i .i64, .i .i64, .i .i64, .i .i64, .s, .st 5]
 | 7 => [.b, .i .u64, .i .i64]
 | 8 => [.i .i64, .i .i64]
 | 9 => [.i .i64, .i .i64, .b, .i .i64]
 | 10 => [.i .u32, .i .i64, .i .u32, .i .i64, .i .i64, .i .i64, .i .i64, .i .i64, .i .i64, .b]
 | 11 => [.i .i64, .i .i64]
 | 12 => [.i .i64, .i .i64, .st 0]
 | 13 => [.i .i64, .i .i64]
 | 14 => [.i .i64, .i .i64]
 | 15 => [.i .u8, .i .u8, .i .u8, .i .u8, .i .u8, .i .u8, .i .i64, .i .i64]
 | 16 => [.i .u32, .i .u32, .i .i64, .i .i64, .i .i64, .i .i64, .i .i64]
 | 17 => [.i .i64, .i .u32, .i .i64, .i .i64, .i .i64]
 | 18 => [.i .u32, .i .u32, .i .i64, .i .i64, .i .u32, .i .u32, .i .u32, .b, .i .i64]
 | 19 => [.i .u32, .i .i64, .i .i64, .i .i64, .i .i64]
 | 20 => [.i .i64, .i .i64, .b, .b, .i .i64, .i .i64, .i .i64, .i .u32, .i .u32, .s, .s]
 | 21 => [.i .u32, .i .i64]
 | 22 => [.st 0]
 | 23 => [.i .i64, .i .i64, .i .u32, .i .u32, .i .i64, .i .i64, .i .i64, .st 4, .s]
 | 24 => [.b, .s, .i .i64]
 | 25 => [.s, .i .i64, .i .i64]
 | 26 => [.i .u32, .i .u32, .i .i64, .i .i64]
 | 27 => [.i .u64]
 | 28 => [.i .u32]
 | _ => []
def bsz : Nat -> Nat
 | 0 => 8
 | 1 => 1
 | 2 => 1
 | 3 => 16
 | 4 => 24
 | 5 => 32
 | 6 => 80
 | 7 => 24
 | 8 => 16
 | 9 => 32
 | 10 => 80
 | 11 => 16
 | 12 => 40
 | 13 => 16
 | 14 => 16
 | 15 => 24
 | 16 => 48
 | 17 => 40
 | 18 => 48
 | 19 => 40
 | 20 => 88
 | 21 => 16
 | 22 => 24
 | 23 => 88
 | 24 => 32
 | 25 => 32
 | 26 => 24
 | 27 => 8
 | 28 => 4
 | _ => 0
theorem enc_of : ∀ (c : Nat) (x : PdsT (pdsE c) Unit), c < 29 -> (∀ d ∈ (putDs (pdsE c) x).1, c = 2 -> ∃ n : Int, d = .i .u8 n /\ 0 <= n /\ n <= 255) -> ∃ t : τ c, enc c t = (putDs (pdsE c) x).1 := by
 intro c x hc hb
 match c, x, hc, hb with
 | 0, (x0, ()), _, _ => exact ⟨x0, rfl⟩
 | 1, (x0, ()), _, _ => exact ⟨x0, rfl⟩
 | 2, (n, ()), _, hb =>
  obtain ⟨m, h1, h2, h3⟩ := hb (.i .u8 n) (show D.i .u8 n ∈ [D.i .u8 n] from List.mem_singleton.2 rfl) rfl
  cases h1
  refine ⟨UInt8.ofNat n.toNat, ?_⟩
  have e : (UInt8.ofNat n.toNat).toNat = n.toNat := by rw [UInt8.toNat_ofNat']; omega
  show [D.i .u8 ((UInt8.ofNat n.toNat).toNat : Int)] = [D.i .u8 n]
  rw [e]; congr 2; omega
 | 3, (x0, ()), _, _ => exact ⟨x0, rfl⟩
 | 4, (x0, x1, ()), _, _ => exact ⟨TOption.mk x0 x1, rfl⟩
 | 5, (x0, x1, x2, ()), _, _ => exact ⟨TPart.mk x0 x1 x2, rfl⟩
 | 6, (x0, x1, x2, x3, x4, x5, x6, x7, ()), _, _ => exact ⟨THeap.mk x0 x1 x2 x3 x4 x5 x6 x7, rfl⟩
 | 7, (x0, x1, x2, ()), _, _ => exact ⟨TSlot.mk x0 x1 x2, rfl⟩
 | 8, (x0, x1, ()), _, _ => exact ⟨TStay.mk x0 x1, rfl⟩
 | 9, (x0, x1, x2, x3, ()), _, _ => exact ⟨TNode.mk x0 x1 x2 x3, rfl⟩
 | 10, (x0, x1, x2, x3, x4, x5, x6, x7, x8, x9, ()), _, _ => exact ⟨TRule.mk x0 x1 x2 x3 x4 x5 x6 x7 x8 x9, rfl⟩
 | 11, (x0, x1, ()), _, _ => exact ⟨TDrop.mk x0 x1, rfl⟩
 | 12, (x0, x1, x2, ()), _, _ => exact ⟨TQueue.mk x0 x1 x2, rfl⟩
 | 13, (x0, x1, ()), _, _ => exact ⟨TSent.mk x0 x1, rfl⟩
 | 14, (x0, x1, ()), _, _ => exact ⟨TDue.mk x0 x1, rfl⟩
 | 15, (x0, x1, x2, x3, x4, x5, x6, x7, ()), _, _ => exact ⟨TStation.mk x0 x1 x2 x3 x4 x5 x6 x7, rfl⟩
 | 16, (x0, x1, x2, x3, x4, x5, x6, ()), _, _ => exact ⟨TTalk.mk x0 x1 x2 x3 x4 x5 x6, rfl⟩
 | 17, (x0, x1, x2, x3, x4, ()), _, _ => exact ⟨TMap.mk x0 x1 x2 x3 x4, rfl⟩
 | 18, (x0, x1, x2, x3, x4, x5, x6, x7, x8, ()), _, _ => exact ⟨TGuarded.mk x0 x1 x2 x3 x4 x5 x6 x7 x8, rfl⟩
 | 19, (x0, x1, x2, x3, x4, ()), _, _ => exact ⟨TMeter.mk x0 x1 x2 x3 x4, rfl⟩
 | 20, (x0, x1, x2, x3, x4, x5, x6, x7, x8, x9, x10, ()), _, _ => exact ⟨TPacket.mk x0 x1 x2 x3 x4 x5 x6 x7 x8 x9 x10, rfl⟩
 | 21, (x0, x1, ()), _, _ => exact ⟨TNet.mk x0 x1, rfl⟩
 | 22, (x0, ()), _, _ => exact ⟨x0, rfl⟩
 | 23, (x0, x1, x2, x3, x4, x5, x6, x7, x8, ()), _, _ => exact ⟨TSegment.mk x0 x1 x2 x3 x4 x5 x6 x7 x8, rfl⟩
 | 24, (x0, x1, x2, ()), _, _ => exact ⟨TCame.mk x0 x1 x2, rfl⟩
 | 25, (x0, x1, x2, ()), _, _ => exact ⟨TWent.mk x0 x1 x2, rfl⟩
 | 26, (x0, x1, x2, x3, ()), _, _ => exact ⟨TRoad.mk x0 x1 x2 x3, rfl⟩
 | 27, (x0, ()), _, _ => exact ⟨x0, rfl⟩
 | 28, (x0, ()), _, _ => exact ⟨x0, rfl⟩
 | n + 29, _, h, _ => omega

def BndD : Nat -> D -> Prop
 | _, .i k x => k.min <= x /\ x <= k.max
 | _, .b _ => True
 | _, .s l => l.length <= 140737488351232
 | n + 1, .st c xs => xs.length * bsz c <= 140737488351232 /\ ∀ x ∈ xs, ∀ d ∈ enc c x, BndD n d
 | _, _ => False
theorem BndD.up : ∀ (n : Nat) (d : D), BndD n d -> BndD (n + 1) d := by
 intro n
 induction n with
 | zero => intro d h; cases d <;> first | exact h | exact h.elim
 | succ n ih =>
  intro d h
  cases d with
  | st c xs => exact ⟨h.1, fun x hx d hd => ih d (h.2 x hx d hd)⟩
  | _ => first | exact h | exact h.elim

def WkS (d d' : D) : Prop := ∀ (w : World) (U : Nat -> Prop) (v : Value), RepI w U v d -> RepI w U v d'
def WkSs (l l' : List D) : Prop := l.length = l'.length /\ ∀ (j : Nat) d d', l[j]? = some d -> l'[j]? = some d' -> WkS d d'
theorem WkSs.app {a b a' b' : List D} (h : WkSs a a') (k : WkSs b b') : WkSs (a ++ b) (a' ++ b') := by
 refine ⟨by simp [h.1, k.1], fun j d d' h1 h2 => ?_⟩
 by_cases hj : j < a.length
 . rw [List.getElem?_append_left hj] at h1
   rw [List.getElem?_append_left (by rw [<- h.1]; exact hj)] at h2
   exact h.2 j d d' h1 h2
 . rw [List.getElem?_append_right (by omega)] at h1
   rw [List.getElem?_append_right (by rw [<- h.1]; omega), <- h.1] at h2
   exact k.2 _ d d' h1 h2
theorem WkSs.rfl (l : List D) : WkSs l l := ⟨Eq.refl _, fun j d d' h1 h2 => by rw [h1] at h2; cases h2; exact fun _ _ _ h => h⟩
theorem RepAll.wkS {w : World} {U : Nat -> Prop} {cs : List Value} {ds ds' : List D} (h : RepAll w U cs ds) (k : WkSs ds ds') : RepAll w U cs ds' := by
 have key : ∀ (cs : List Value) (ds ds' : List D), RepAll w U cs ds -> WkSs ds ds' -> RepAll w U cs ds' := by
  intro cs
  induction cs with
  | nil =>
   intro ds ds' h k
   cases ds with
   | nil => cases ds' with | nil => trivial | cons => have := k.1; simp at this
   | cons => exact h.elim
  | cons v cs ih =>
   intro ds ds' h k
   cases ds with
   | nil => exact h.elim
   | cons d ds =>
    cases ds' with
    | nil => have := k.1; simp at this
    | cons d' ds' =>
     refine ⟨k.2 0 d d' (by simp) (by simp) _ _ _ h.1, ih ds ds' h.2 ⟨by have := k.1; simpa using this, fun j d d' h1 h2 => k.2 (j + 1) d d' (by simpa using h1) (by simpa using h2)⟩⟩
 exact key cs ds ds' h k

theorem wkS_rows {sz c : Nat} {rows : List (List D)} {xs : List (τ c)} (hsz : sz = esz c) (hl : rows.length = xs.length) (h : ∀ (i : Nat) r x, rows[i]? = some r -> xs[i]? = some x -> WkSs r (enc c x)) : WkS (.sl sz rows) (.st c xs) := by
 subst hsz
 intro w U v hr
 refine RepI.toSt ?_
 have hl' : rows.length = (xs.map (enc c)).length := by simpa using hl
 cases hr with
 | nil a cap _ hn =>
  have : xs = [] := List.length_eq_zero_iff.1 (by simpa using hl.symm)
  subst this
  exact .nil a cap _ hn
 | sl b o cap _ _ vals hU hlen hcap hc hrr =>
  have main := RepI.sl (w := w) (U := U) b o cap (esz c) (xs.map (enc c)) vals hU (fun r hr => by obtain ⟨t, _, rfl⟩ := List.mem_map.1 hr; exact enc_len c t) (by rw [<- hl']; exact hcap)
   (fun i j r d hi hj => by
    rw [List.getElem?_map, Option.map_eq_some_iff] at hi
    obtain ⟨x, hx, rfl⟩ := hi
    have hlt : i < rows.length := by rw [hl]; exact (List.getElem?_eq_some_iff.1 hx).1
    have hw := h i _ x (List.getElem?_eq_getElem hlt) hx
    have hjlt : j < (rows[i]).length := by rw [hw.1]; exact (List.getElem?_eq_some_iff.1 hj).1
    exact hc i j _ _ (List.getElem?_eq_getElem hlt) (List.getElem?_eq_getElem hjlt))
   (fun i j r d hi hj => by
    rw [List.getElem?_map, Option.map_eq_some_iff] at hi
    obtain ⟨x, hx, rfl⟩ := hi
    have hlt : i < rows.length := by rw [hl]; exact (List.getElem?_eq_some_iff.1 hx).1
    have hw := h i _ x (List.getElem?_eq_getElem hlt) hx
    have hjlt : j < (rows[i]).length := by rw [hw.1]; exact (List.getElem?_eq_some_iff.1 hj).1
    exact hw.2 j _ d (List.getElem?_eq_getElem hjlt) hj _ _ _ (hrr i j _ _ (List.getElem?_eq_getElem hlt) (List.getElem?_eq_getElem hjlt)))
  rw [<- hl'] at main
  exact main

def tyDs (P : Program) (cod : TypeId -> Nat) : Nat -> TypeId -> Option (List PD)
 | 0, _ => none
 | n + 1, t => match P.underlying t with
  | some .bool => some [.b]
  | some (.int k) => some [.i k]
  | some .string => some [.s]
  | some (.struct fs) => (fs.toList.map (·.type)).foldr (fun t r => match tyDs P cod n t, r with | some a, some b => some (a ++ b) | _, _ => none) (some [])
  | some (.array m e) => (List.replicate m e).foldr (fun t r => match tyDs P cod n t, r with | some a, some b => some (a ++ b) | _, _ => none) (some [])
  | some (.slice e) => if cod t < 29 /\ esz (cod t) = P.cellsOf e /\ bsz (cod t) = P.bytesOf e then match tyDs P cod n e with
   | some ps => match pdsSame ps (pdsE (cod t)) with | true => some [.st (cod t)] | false => none
   | none => none
   else none
  | _ => none

theorem putDs_app : ∀ (a b : List PD) (x : PdsT a Unit) (y : PdsT b Unit), ∃ z : PdsT (a ++ b) Unit, (putDs (a ++ b) z).1 = (putDs a x).1 ++ (putDs b y).1
 | [], b, x, y => ⟨y, rfl⟩
 | .i k :: a, b, (n, x), y => by obtain ⟨z, hz⟩ := putDs_app a b x y; exact ⟨(n, z), by simp [putDs, hz]⟩
 | .b :: a, b, (n, x), y => by obtain ⟨z, hz⟩ := putDs_app a b x y; exact ⟨(n, z), by simp [putDs, hz]⟩
 | .s :: a, b, (n, x), y => by obtain ⟨z, hz⟩ := putDs_app a b x y; exact ⟨(n, z), by simp [putDs, hz]⟩
 | .st c :: a, b, (n, x), y => by obtain ⟨z, hz⟩ := putDs_app a b x y; exact ⟨(n, z), by simp [putDs, hz]⟩

theorem list_choose {α β : Type} {Q : α -> β -> Prop} : ∀ (l : List α), (∀ a ∈ l, ∃ b, Q a b) -> ∃ m : List β, l.length = m.length /\ ∀ (i : Nat) a b, l[i]? = some a -> m[i]? = some b -> Q a b
 | [], _ => ⟨[], rfl, fun i a b h => by simp at h⟩
 | a :: l, h => by
  obtain ⟨b, hb⟩ := h a (by simp)
  obtain ⟨m, h1, h2⟩ := list_choose l (fun a ha => h a (by simp [ha]))
  refine ⟨b :: m, by simp [h1], fun i a' b' e1 e2 => ?_⟩
  cases i with
  | zero => simp at e1 e2; subst e1; subst e2; exact hb
  | succ i => exact h2 i a' b' (by simpa using e1) (by simpa using e2)

theorem u8_of {ps : List PD} (h : ps = [.i .u8]) {x : PdsT ps Unit} {d : D} (hd : d ∈ (putDs ps x).1) : ∃ n : Int, d = .i .u8 n := by
 subst h
 obtain ⟨n, u⟩ := x
 have hd' : d ∈ [D.i .u8 n] := hd
 exact ⟨n, List.mem_singleton.1 hd'⟩

theorem sh_typed {P : Program} {cod : TypeId -> Nat} : ∀ (n : Nat) (t : TypeId) (ds : List D) (ps : List PD), tyDs P cod n t = some ps -> Sh P n t ds -> ∃ x : PdsT ps Unit, WkSs ds (putDs ps x).1 /\ ∀ d ∈ (putDs ps x).1, BndD n d
 | 0, t, ds, ps, h, _ => by cases h
 | n + 1, t, ds, ps, h, hs => by
  have parts : ∀ (ts : List TypeId) (ds : List D) (ps : List PD), ts.foldr (fun t r => match tyDs P cod n t, r with | some a, some b => some (a ++ b) | _, _ => none) (some []) = some ps -> ShAll (Sh P n) ts ds ->
      ∃ x : PdsT ps Unit, WkSs ds (putDs ps x).1 /\ ∀ d ∈ (putDs ps x).1, BndD (n + 1) d := by
    intro ts
    induction ts with
    | nil =>
      intro ds ps h hs
      cases h
      have : ds = [] := hs
      subst this
      exact ⟨(), WkSs.rfl _, fun d hd => by cases hd⟩
    | cons t ts ih =>
      intro ds ps h hs
      rw [List.foldr_cons] at h
      split at h
      . rename_i a b h1 h2
        cases h
        obtain ⟨d1, d2, rfl, s1, s2⟩ := hs
        obtain ⟨x, hx, bx⟩ := sh_typed n t d1 a h1 s1
        obtain ⟨y, hy, byy⟩ := ih d2 b h2 s2
        obtain ⟨z, hz⟩ := putDs_app a b x y
        refine ⟨z, by rw [hz]; exact hx.app hy, fun d hd => ?_⟩
        rw [hz] at hd
        rcases List.mem_append.1 hd with hd | hd
        . exact BndD.up n d (bx d hd)
        . exact byy d hd
      . cases h
  unfold tyDs at h
  unfold Sh at hs
  split at h
  . rename_i hu
    cases h
    rw [hu] at hs
    obtain ⟨b, rfl⟩ := hs
    exact ⟨(b, ()), WkSs.rfl _, fun d hd => by simp [putDs] at hd; subst hd; trivial⟩
  . rename_i k hu
    cases h
    rw [hu] at hs
    obtain ⟨x, rfl, h1, h2⟩ := hs
    exact ⟨(x, ()), WkSs.rfl _, fun d hd => by simp [putDs] at hd; subst hd; exact ⟨h1, h2⟩⟩
  . rename_i hu
    cases h
    rw [hu] at hs
    obtain ⟨l, rfl, h1⟩ := hs
    exact ⟨(l, ()), WkSs.rfl _, fun d hd => by simp [putDs] at hd; subst hd; exact h1⟩
  . rename_i fs hu
    rw [hu] at hs
    exact parts _ ds ps h hs
  . rename_i m e hu
    rw [hu] at hs
    exact parts _ ds ps h hs
  . rename_i e hu
    rw [hu] at hs
    obtain ⟨rows, rfl, h1, h2, h3⟩ := hs
    split at h
    case isFalse => cases h
    rename_i hc
    obtain ⟨c1, c2, c3⟩ := hc
    split at h
    case h_2 => cases h
    rename_i ps' hps
    split at h
    case h_2 => cases h
    rename_i heq
    have heq := pdsSame_eq heq
    subst heq
    cases h
    obtain ⟨xs, hl, hx⟩ := list_choose (Q := fun (r : List D) (x : τ (cod t)) => WkSs r (enc (cod t) x) /\ ∀ d ∈ enc (cod t) x, BndD n d) rows (fun r hr => by
      obtain ⟨x, hx, bx⟩ := sh_typed n e r _ hps (h3 r hr)
      obtain ⟨y, hy⟩ := enc_of (cod t) x c1 (fun d hd he => by
        have hb := bx d hd
        obtain ⟨n', rfl⟩ := u8_of (by rw [he]; rfl) hd
        have hb' : IntKind.u8.min <= n' /\ n' <= IntKind.u8.max := by cases n <;> exact hb
        exact ⟨n', rfl, hb'.1, hb'.2⟩)
      exact ⟨y, by rw [hy]; exact hx, by rw [hy]; exact bx⟩)
    refine ⟨(xs, ()), ?_, fun d hd => ?_⟩
    . refine ⟨rfl, fun j d d' e1 e2 => ?_⟩
      cases j with
      | zero =>
        simp [putDs] at e1 e2
        subst e1; subst e2
        exact wkS_rows c2.symm hl (fun i r x a1 a2 => (hx i r x a1 a2).1)
      | succ j => simp at e1
    . simp [putDs] at hd
      subst hd
      refine ⟨by rw [<- hl, c3]; exact h2, fun x hxm d hd => ?_⟩
      obtain ⟨i, hi⟩ := List.mem_iff_getElem?.1 hxm
      have hlt : i < rows.length := by rw [hl]; exact (List.getElem?_eq_some_iff.1 hi).1
      exact (hx i _ x (List.getElem?_eq_getElem hlt) hi).2 d hd
  . cases h

theorem rd_typed {P : Program} {cod : TypeId -> Nat} {w : World} {t : TypeId} {cs : List Value} {ps : List PD} (hok : okT P 6 t = true) (hps : tyDs P cod 6 t = some ps) (hr : Rd P w t cs) :
  ∃ x : PdsT ps Unit, RepAll w (fun b => b < w.heap.size) cs (putDs ps x).1 /\ ∀ d ∈ (putDs ps x).1, BndD 6 d := by
 obtain ⟨ds, h1, h2⟩ := rd_rep (U := fun b => b < w.heap.size) (fun _ h => h) 6 t cs hok hr
 obtain ⟨x, h3, h4⟩ := sh_typed 6 t ds ps hps h2
 exact ⟨x, h1.wkS h3, h4⟩
theorem RepArgs.d1 {w : World} {v : Value} {d : D} {us : List Value} {ys : List V} (h : RepAll w (fun b => b < w.heap.size) [v] [d]) (hr : RepArgs w us ys) : RepArgs w (v :: us) (vd d :: ys) := hr.one h.1
theorem law_told {P : Program} (F : FS P) (hrp : F.rp = ⟨1, [(0, .v (.one .b))], []⟩) {x : VPsT F.ap Unit} (h : ∃ r, F.fn x = some r /\ (F.rp.put r).get 0 = vb true /\ (F.rp.put r).mem = []) {w : World} {us : Array Value} (hr : RepArgs w us.toList (putVs (fun _ => 0) F.ap x).1)
  (hn : decide ((putVs (fun _ => 0) F.ap x).1.length <= 900) = true) (hgl : ∀ e ∈ globs, ∃ x y, w.heap[e.1]? = some (.cells e.2 x y) := by intro e he; exact absurd he (by simp [Go.Proofs.YthkhikdglmaiaaaGreatDoor.Abs.globs])) (hgi : ∀ g ∈ gints, g < w.heap.size /\ ∃ m, w.cell? ⟨g, 0, none⟩ = some (.int .i64 m) := by intro e he; exact absurd he (by simp [Go.Proofs.YthkhikdglmaiaaaGreatDoor.Abs.gints])) : Calls P F.f us w fun e w' => e = .returned (.bool true) /\ Below w.heap.size w w' := by
 obtain ⟨r, h1, h2, h3⟩ := h
 have := F.ok x r h1
 rw [h2, h3] at this
 exact law_calls this hr hn (glob_of hgl hgi)
end Go.Proofs.YthkhikdglmaiaaaGreatDoor.Abs
namespace Go.Proofs.YthkhikdglmaiaaaGreatDoor.X
open Go Go.RowKit Go.Proofs.YthkhikdglmaiaaaGreatDoor.Abs Go.Proofs.YthkhikdglmaiaaaGreatDoor.Bits
set_option linter.unusedVariables false
set_option linter.unnecessarySimpa false
set_option linter.unusedSimpArgs false
structure Rd4 where (a b p q : Int) deriving DecidableEq
def turn (w : Rd4) : Rd4 := ⟨w.b, w.a, w.q, w.p⟩
def rdOf (x : TTalk) : Rd4 := ⟨x.from', x.to, x.fromPort, x.toPort⟩
def meet (w : Rd4) (x : TTalk) : Bool := decide (rdOf x = w) || decide (rdOf x = turn w)
theorem turn_turn (w : Rd4) : turn (turn w) = w := rfl
theorem rd_eq (x : TTalk) (w : Rd4) : (decide (x.from' = w.a) && (decide (x.to = w.b) && (decide (x.fromPort = w.p) && (decide (x.toPort = w.q) && true)))) = decide (rdOf x = w) := by
 obtain ⟨a, b, p, q⟩ := w
 rw [Bool.eq_iff_iff]
 simp [rdOf]
theorem meet_iff {w : Rd4} {x : TTalk} : meet w x = true ↔ rdOf x = w \/ rdOf x = turn w := by simp [meet]
theorem meet_same {w : Rd4} {x y : TTalk} (hx : meet w x = true) (hy : meet w y = true) : meet (rdOf x) y = true := by
 rw [meet_iff] at *
 rcases hx with h | h <;> rcases hy with k | k <;> rw [h, k] <;> simp [turn_turn]
theorem meet_other {w v : Rd4} {x : TTalk} (hx : meet w x = true) (h1 : v ≠ w) (h2 : v ≠ turn w) : meet v x = false := by
 cases h : meet v x with
 | false => rfl
 | true =>
  rw [meet_iff] at hx h
  rcases hx with hx | hx <;> rcases h with h | h <;> rw [hx] at h
  . exact absurd h.symm h1
  . exact absurd (by rw [h]; rfl) h2
  . exact absurd h.symm h2
  . have := congrArg turn h; rw [turn_turn, turn_turn] at this; exact absurd this.symm h1
theorem meet_self (x : TTalk) : meet (rdOf x) x = true := meet_iff.2 (.inl rfl)
theorem turned_fn (w : Rd4) : trTurned_fn (w.a, (w.b, (w.p, (w.q, ())))) = some ((turn w).a, ((turn w).b, ((turn w).p, ((turn w).q, ())))) := rfl
abbrev Big : Nat := 8796093022208
theorem placeT_fn (l : List TTalk) (w : Rd4) (hl : l.length < Big) : trPlace_fn (l, (w.a, (w.b, (w.p, (w.q, ()))))) = some ((match hit (meet w) l with | some q => (q.1 : Int) | none => -1), ()) := by
 unfold Big at hl
 unfold trPlace_fn trPlace_tree
 have := loop_hit (tag := 1580002) (f := fun x => (trPlace_step158_2 x).eval) (l := l) (fun i => ((i : Int), (l, ((l.length : Int), (w.a, (w.b, (w.p, (w.q, ())))))))) (meet w)
  (fun q => match q with | some q => Sum.inl ((q.1 : Int), (w.a, (w.b, (w.p, (w.q, ()))))) | none => Sum.inr (w.a, (w.b, (w.p, (w.q, ())))))
  (fun i x hx => by
   have hi := (List.getElem?_eq_some_iff.1 hx).1
   show (trPlace_step158_2 _).eval = _
   unfold trPlace_step158_2
   refine ev_t (by simp <;> omega) (ev_g (by simp) (ev_opt (show l[Int.toNat (i : Int)]? = some x by simpa using hx) ?_))
   unfold meet
   cases h1 : decide (rdOf x = w) with
   | true => exact ev_t (by rw [rd_eq x w]; exact h1) (ev_t rfl (ev_r rfl))
   | false =>
    refine ev_f (by rw [rd_eq x w]; exact h1) (ev_opt (turned_fn w) ?_)
    cases h2 : decide (rdOf x = turn w) with
    | true => exact ev_t (show _ = true from (rd_eq x (turn w)).trans h2) (ev_r rfl)
    | false => exact ev_f (show _ = false from (rd_eq x (turn w)).trans h2) (ev_r (by rw [next_i64 i (by omega)])))
  (by show (trPlace_step158_2 _).eval = _; exact ev_f (by simp) (ev_r rfl)) 18446744073709551616 (by omega)
 refine ev_opt (show trPlace_loop158_2 ((0 : Int), (l, ((l.length : Int), (w.a, (w.b, (w.p, (w.q, ()))))))) = _ from this) ?_
 cases hit (meet w) l <;> rfl
def portB (x : Int) : Bool := decide ((0 : Int) <= x) && decide (x <= (65535 : Int))
theorem port_fn (x : Int) : trPort_fn (x, ()) = some (portB x, ()) := by
 simp only [trPort_fn, trPort_tree, portB, Tr.eval, cond_and]
def roadB (w : Rd4) : Bool := portB w.p && (portB w.q && !decide (w = turn w))
theorem road_fn (w : Rd4) : trRoad_fn (w.a, (w.b, (w.p, (w.q, ())))) = some (roadB w, ()) := by
 have e : (decide (w.a = (turn w).a) && (decide (w.b = (turn w).b) && (decide (w.p = (turn w).p) && (decide (w.q = (turn w).q) && true)))) = decide (w = turn w) := rd_eq ⟨w.a, w.b, w.p, w.q, 0, 0, 0⟩ (turn w)
 unfold trRoad_fn trRoad_tree roadB
 refine ev_opt (port_fn w.p) ?_
 cases portB w.p with
 | false => exact ev_f rfl (ev_r rfl)
 | true =>
  refine ev_t rfl (ev_opt (port_fn w.q) ?_)
  cases portB w.q with
  | false => exact ev_f rfl (ev_r rfl)
  | true => exact ev_t rfl (ev_opt (turned_fn w) (ev_r (by rw [<- e]; rfl)))
def stB (x : TTalk) : Bool := if x.state = 1 then decide (x.over = 0) else if x.state = 2 then decide (x.over = 0) else if x.state = 3 then decide ((0 : Int) <= x.over) && decide (x.over <= (2 : Int)) else if x.state = 4 then decide (x.over = 3) else false
def formB (x : TTalk) : Bool := roadB (rdOf x) && (decide (0 <= x.at') && (decide (x.at' <= 1099511627776) && stB x))
theorem form_fn (x : TTalk) : trForm_fn (x.from', (x.to, (x.fromPort, (x.toPort, (x.state, (x.over, (x.at', ()))))))) = some (formB x, ()) := by
 unfold trForm_fn trForm_tree formB
 refine ev_opt (road_fn (rdOf x)) ?_
 cases roadB (rdOf x) with
 | false => exact ev_t rfl (ev_r rfl)
 | true =>
  refine ev_f rfl ?_
  by_cases h1 : x.at' < 0
  . exact ev_t (by simpa using h1) (ev_r (by simp <;> omega))
  refine ev_f (by simpa using h1) ?_
  by_cases h2 : 1099511627776 < x.at'
  . exact ev_t (by simpa using h2) (ev_r (by simp <;> omega))
  refine ev_f (by simpa using h2) ?_
  rw [show decide (0 <= x.at') = true by simp; omega, show decide (x.at' <= 1099511627776) = true by simp; omega]
  unfold stB
  by_cases g1 : x.state = 1
  . exact ev_t (by simpa using g1) (ev_r (by rw [if_pos g1]; simp))
  refine ev_f (by simpa using g1) ?_
  by_cases g2 : x.state = 2
  . exact ev_t (by simpa using g2) (ev_r (by rw [if_neg g1, if_pos g2]; simp))
  refine ev_f (by simpa using g2) ?_
  by_cases g3 : x.state = 3
  . refine ev_t (by simpa using g3) ?_
    rw [if_neg g1, if_neg g2, if_pos g3]
    by_cases k : 0 <= x.over
    . exact ev_t (by simpa using k) (ev_r (by simp [k]))
    . exact ev_f (by simpa using k) (ev_r (by simp [k]))
  refine ev_f (by simpa using g3) ?_
  by_cases g4 : x.state = 4
  . exact ev_t (by simpa using g4) (ev_r (by rw [if_neg g1, if_neg g2, if_neg g3, if_pos g4]; simp))
  . exact ev_f (by simpa using g4) (ev_r (by rw [if_neg g1, if_neg g2, if_neg g3, if_neg g4]; simp))
def oldB (now : Int) (x : TTalk) : Bool := if x.state = 3 then decide ((3000 : Int) < IntKind.wrap IntKind.i64 (now - x.at')) else if x.state = 4 then decide ((60 : Int) < IntKind.wrap IntKind.i64 (now - x.at')) else decide ((30 : Int) < IntKind.wrap IntKind.i64 (now - x.at'))
theorem old_fn (now : Int) (x : TTalk) : trOld_fn (x.from', (x.to, (x.fromPort, (x.toPort, (x.state, (x.over, (x.at', (now, ())))))))) = some (oldB now x, ()) := by
 unfold trOld_fn trOld_tree oldB
 by_cases g3 : x.state = 3
 . exact ev_t (by simpa using g3) (ev_r (by rw [if_pos g3]))
 refine ev_f (by simpa using g3) ?_
 by_cases g4 : x.state = 4
 . exact ev_t (by simpa using g4) (ev_r (by rw [if_neg g3, if_pos g4]))
 . exact ev_f (by simpa using g4) (ev_r (by rw [if_neg g3, if_neg g4]))

def Good (l : List TTalk) : Prop := l.length <= 64 /\ (∀ x ∈ l, formB x = true) /\ l.Pairwise (fun x y => x.at' <= y.at' /\ meet (rdOf x) y = false)
theorem Good.sub {l l' : List TTalk} (h : Good l) (hs : l'.Sublist l) : Good l' :=
 ⟨Nat.le_trans hs.length_le h.1, fun x hx => h.2.1 x (hs.subset hx), h.2.2.sublist hs⟩
def At (l : List TTalk) (i : Nat) (x : TTalk) : Prop := formB x = true /\ (∀ y, 0 < i -> l[i - 1]? = some y -> y.at' <= x.at') /\ (hit (meet (rdOf x)) l).map (·.1) = some i
theorem good_at {l : List TTalk} : (l.length <= 64 /\ ∀ i x, l[i]? = some x -> At l i x) ↔ Good l := by
 constructor
 . rintro ⟨h1, h2⟩
   refine ⟨h1, fun x hx => ?_, ?_⟩
   . obtain ⟨i, hi, rfl⟩ := List.getElem_of_mem hx
     exact (h2 i _ (List.getElem?_eq_getElem hi)).1
   . rw [List.pairwise_iff_getElem]
     intro i j hi hj hij
     refine ⟨?_, ?_⟩
     . have key : ∀ d, ∀ (k : Nat) (hk : k < l.length), k = i + d -> l[i].at' <= l[k].at' := by
        intro d
        induction d with
        | zero => intro k hk e; subst e; exact Int.le_refl _
        | succ d ih =>
         intro k hk e
         have := (h2 k _ (List.getElem?_eq_getElem hk)).2.1 l[k - 1] (by omega) (List.getElem?_eq_getElem (by omega))
         exact Int.le_trans (ih (k - 1) (by omega) (by omega)) this
       exact key (j - i) j hj (by omega)
     . cases hm : meet (rdOf l[i]) l[j] with
       | false => rfl
       | true =>
        have h3 := (h2 j _ (List.getElem?_eq_getElem hj)).2.2
        have h4 : meet (rdOf l[j]) l[i] = true := meet_same (w := rdOf l[i]) hm (meet_self _)
        have e : l = l.take i ++ l[i] :: l.drop (i + 1) := by rw [<- List.drop_eq_getElem_cons hi, List.take_append_drop]
        exfalso
        rw [show hit (meet (rdOf l[j])) l = hit (meet (rdOf l[j])) (l.take i ++ l[i] :: l.drop (i + 1)) from congrArg _ e, hit_app] at h3
        simp only [hit, h4, Option.map_some] at h3
        cases h5 : hit (meet (rdOf l[j])) (l.take i) with
        | none => rw [h5] at h3; simp at h3; omega
        | some q =>
         rw [h5] at h3
         have := hit_lt (i := q.1) (x := q.2) h5
         simp at h3 this; omega
 . rintro ⟨h1, h2, h3⟩
   refine ⟨h1, fun i x hx => ⟨h2 x (List.mem_of_getElem? hx), fun y hi hy => ?_, ?_⟩⟩
   . obtain ⟨hi', rfl⟩ := List.getElem?_eq_some_iff.1 hx
     obtain ⟨hj', rfl⟩ := List.getElem?_eq_some_iff.1 hy
     exact ((List.pairwise_iff_getElem.1 h3) (i - 1) i hj' hi' (by omega)).1
   . obtain ⟨hi', rfl⟩ := List.getElem?_eq_some_iff.1 hx
     have e : l = l.take i ++ l[i] :: l.drop (i + 1) := by rw [<- List.drop_eq_getElem_cons hi', List.take_append_drop]
     have hn : hit (meet (rdOf l[i])) (l.take i) = none := hit_none.2 fun y hy => by
       obtain ⟨j, hj, rfl⟩ := List.getElem_of_mem hy
       have hj2 : j < i := by simp at hj; omega
       rw [List.getElem_take]
       have := ((List.pairwise_iff_getElem.1 h3) j i (by omega) hi' hj2).2
       cases hm : meet (rdOf l[i]) l[j] with
       | false => rfl
       | true => rw [meet_same hm (meet_self _)] at this; cases this
     generalize hx : l[i] = x at *
     conv => lhs; rw [e]
     rw [hit_app, hn]
     simp only [hit, meet_self, Option.map_some, Option.none_or]
     simp; omega
theorem loop_all {A B T : Type} {tag : Nat} {f : A -> Option (A ⊕ B)} {l : List T} (st : Nat -> A) (p : Nat -> T -> Prop) (bad good : B)
   (h1 : ∀ (i : Nat) (x : T), l[i]? = some x -> (p i x -> f (st i) = some (.inl (st (i + 1)))) /\ (¬ p i x -> f (st i) = some (.inr bad)))
   (h2 : f (st l.length) = some (.inr good)) (n : Nat) (hn : l.length < n) : ((∀ i x, l[i]? = some x -> p i x) /\ loopO tag f n (st 0) = some good) \/ ((¬ ∀ i x, l[i]? = some x -> p i x) /\ loopO tag f n (st 0) = some bad) := by
 have key : ∀ (c k n : Nat), k + c = l.length -> c < n -> ((∀ i x, k <= i -> l[i]? = some x -> p i x) /\ loopO tag f n (st k) = some good) \/ ((¬ ∀ i x, l[i]? = some x -> p i x) /\ loopO tag f n (st k) = some bad) := by
   intro c
   induction c with
   | zero =>
    intro k n hk hn
    obtain ⟨n, rfl⟩ : ∃ m, n = m + 1 := ⟨n - 1, by omega⟩
    have : k = l.length := by omega
    subst this
    refine .inl ⟨fun i x hi hx => ?_, loopO_out h2⟩
    have := (List.getElem?_eq_some_iff.1 hx).1
    omega
   | succ c ih =>
    intro k n hk hn
    obtain ⟨n, rfl⟩ : ∃ m, n = m + 1 := ⟨n - 1, by omega⟩
    have hkl : k < l.length := by omega
    obtain ⟨g1, g2⟩ := h1 k l[k] (List.getElem?_eq_getElem hkl)
    by_cases hp : p k l[k]
    . rcases ih (k + 1) n (by omega) (by omega) with ⟨a1, a2⟩ | ⟨a1, a2⟩
      . refine .inl ⟨fun i x hi hx => ?_, by rw [loopO_in (g1 hp)]; exact a2⟩
        by_cases e : i = k
        . subst e; rw [List.getElem?_eq_getElem hkl] at hx; cases hx; exact hp
        . exact a1 i x (by omega) hx
      . exact .inr ⟨a1, by rw [loopO_in (g1 hp)]; exact a2⟩
    . exact .inr ⟨fun hall => hp (hall k _ (List.getElem?_eq_getElem hkl)), loopO_out (g2 hp)⟩
 rcases key l.length 0 n (by omega) hn with ⟨a1, a2⟩ | h
 . exact .inl ⟨fun i x hx => a1 i x (by omega) hx, a2⟩
 . exact .inr h
theorem checkT_fn (l : List TTalk) : ∃ c : Int, trCheck_fn (l, ()) = some (c, ()) /\ (c = 0 ↔ Good l) := by
  unfold trCheck_fn trCheck_tree
  by_cases hl : 64 < l.length
  . exact ⟨2, ev_t (by simp <;> omega) (ev_r rfl), ⟨fun h => (by cases h), fun h => by have := h.1; omega⟩⟩
  have := loop_all (tag := 830004) (f := fun x => (trCheck_step83_4 x).eval) (l := l) (fun i => ((i : Int), (l, (l, ((l.length : Int), ()))))) (At l) (Sum.inl ((4 : Int), ())) (Sum.inr ())
      (fun i x hx => by
        have hi := (List.getElem?_eq_some_iff.1 hx).1
        have hp := placeT_fn l (rdOf x) (by unfold Big; omega)
        -- the last question
        have last : ∀ (T : Tr ((Int × ((List TTalk) × ((List TTalk) × (Int × Unit)))) ⊕ ((Int × Unit) ⊕ Unit))), T = (.opt (β := (Int × Unit)) ((trPlace_fn (l, (x.from', (x.to, (x.fromPort, (x.toPort, ()))))))) (fun r2 =>
             .ite (!decide (r2.1 = (i : Int))) (
              .ret (Sum.inr (Sum.inl ((4 : Int), ())))) (
              .ret (Sum.inl (IntKind.wrap IntKind.i64 ((i : Int) + (1 : Int)), (l, (l, ((l.length : Int), ())))))))) ->
             ((hit (meet (rdOf x)) l).map (·.1) = some i -> T.eval = some (.inl (((i + 1 : Nat) : Int), (l, (l, ((l.length : Int), ())))))) /\ (¬ (hit (meet (rdOf x)) l).map (·.1) = some i -> T.eval = some (.inr (Sum.inl ((4 : Int), ())))) := by
          rintro T rfl
          refine ⟨fun h => ?_, fun h => ?_⟩
          . refine ev_opt hp ?_
            cases h2 : hit (meet (rdOf x)) l with
            | none => rw [h2] at h; cases h
            | some q =>
              rw [h2] at h
              have : q.1 = i := by simpa using h
              exact ev_f (by simp [this]) (ev_r (by rw [next_i64 i (by omega)]))
          . refine ev_opt hp ?_
            cases h2 : hit (meet (rdOf x)) l with
            | none => exact ev_t (by simp <;> omega) (ev_r rfl)
            | some q =>
              rw [h2] at h
              have : ¬ q.1 = i := by simpa using h
              exact ev_t (by simp <;> omega) (ev_r rfl)
        show (At l i x -> (trCheck_step83_4 _).eval = _) /\ (¬ At l i x -> (trCheck_step83_4 _).eval = _)
        unfold trCheck_step83_4
        by_cases h0 : 0 < i
        . have hy : l[i - 1]? = some l[i - 1] := List.getElem?_eq_getElem (by omega)
          refine ⟨fun hA => ?_, fun hA => ?_⟩
          . refine ev_t (by simp <;> omega) (ev_g (by simp) (ev_opt (show l[Int.toNat (i : Int)]? = some x by simpa using hx) (ev_opt (form_fn x) (ev_f (by simp [hA.1]) (ev_t (by simp <;> omega) ?_)))))
            rw [prev_i64 i h0 (by omega)]
            refine ev_g (by simp) (ev_opt (b := l[i - 1]) (by simpa using hy) (ev_f (by simp; exact hA.2.1 _ h0 hy) ((last _ rfl).1 hA.2.2)))
          . refine ev_t (by simp <;> omega) (ev_g (by simp) (ev_opt (show l[Int.toNat (i : Int)]? = some x by simpa using hx) (ev_opt (form_fn x) ?_)))
            cases hf : formB x with
            | false => exact ev_t rfl (ev_r rfl)
            | true =>
              refine ev_f rfl (ev_t (by simp <;> omega) ?_)
              rw [prev_i64 i h0 (by omega)]
              refine ev_g (by simp) (ev_opt (b := l[i - 1]) (by simpa using hy) ?_)
              by_cases hlt : x.at' < l[i - 1].at'
              . exact ev_t (by simpa using hlt) (ev_r rfl)
              . refine ev_f (by simpa using hlt) ((last _ rfl).2 fun h => hA ⟨hf, fun y _ hy2 => ?_, h⟩)
                rw [hy] at hy2; cases hy2; omega
        . have h00 : i = 0 := by omega
          subst h00
          refine ⟨fun hA => ?_, fun hA => ?_⟩
          . exact ev_t (by simp <;> omega) (ev_g (by simp) (ev_opt (show l[Int.toNat ((0 : Nat) : Int)]? = some x by simpa using hx) (ev_opt (form_fn x) (ev_f (by simp [hA.1]) (ev_f (by simp) ((last _ rfl).1 hA.2.2))))))
          . refine ev_t (by simp <;> omega) (ev_g (by simp) (ev_opt (show l[Int.toNat ((0 : Nat) : Int)]? = some x by simpa using hx) (ev_opt (form_fn x) ?_)))
            cases hf : formB x with
            | false => exact ev_t rfl (ev_r rfl)
            | true => exact ev_f rfl (ev_f (by simp) ((last _ rfl).2 fun h => hA ⟨hf, fun y h1 _ => by omega, h⟩)))
      (by show (trCheck_step83_4 _).eval = _; exact ev_f (by simp) (ev_r rfl)) 18446744073709551616 (by omega)
  rcases this with ⟨h1, h2⟩ | ⟨h1, h2⟩
  . exact ⟨0, ev_f (by simp <;> omega) (ev_opt (show trCheck_loop83_4 ((0 : Int), (l, (l, ((l.length : Int), ())))) = _ from h2) rfl), ⟨fun _ => good_at.1 ⟨by omega, h1⟩, fun _ => rfl⟩⟩
  . exact ⟨4, ev_f (by simp <;> omega) (ev_opt (show trCheck_loop83_4 ((0 : Int), (l, (l, ((l.length : Int), ())))) = _ from h2) rfl), ⟨fun h => (by cases h), fun h => (h1 (good_at.2 h).2).elim⟩⟩
set_option maxRecDepth 100000
abbrev FT := Int × (Int × (Int × (Int × (Int × (Int × (Int × (Bool × (Int × Unit))))))))
def noT (e : Int) : FT := (0, (0, (0, (0, (0, (0, (0, (false, (e, ())))))))))
def okT (x : TTalk) : FT := (x.from', (x.to, (x.fromPort, (x.toPort, (x.state, (x.over, (x.at', (true, (0, ())))))))))
def fnd (l : List TTalk) (w : Rd4) (now : Int) : FT := match hit (meet w) l with | none => noT 0 | some q => if oldB now q.2 then noT 0 else okT q.2
theorem find_good (l : List TTalk) (w : Rd4) (now : Int) (hg : Good l) (h0 : 0 <= now) (h1 : now <= 1099511627776) : trFind_fn (l, (w.a, (w.b, (w.p, (w.q, (now, ())))))) = some (fnd l w now) := by
 obtain ⟨c, hc, hc0⟩ := checkT_fn l
 have hlen := hg.1
 unfold trFind_fn trFind_tree fnd
 refine ev_opt hc (ev_f (by simp [hc0.2 hg]) (ev_f (by simp <;> omega) (ev_f (by simp <;> omega) (ev_opt (placeT_fn l w (by unfold Big; omega)) ?_))))
 cases h : hit (meet w) l with
 | none => exact ev_t rfl (ev_r rfl)
 | some q =>
  have hx : l[Int.toNat (q.1 : Int)]? = some q.2 := by simpa using (hit_at (i := q.1) (x := q.2) h).1
  refine ev_f (by simp) (ev_g (by simp) (ev_opt hx (ev_opt (old_fn now q.2) ?_)))
  cases ho : oldB now q.2 with
  | true => exact ev_t rfl (ev_r (by show _ = if oldB now q.2 = true then noT 0 else okT q.2; rw [ho]; rfl))
  | false => exact ev_f rfl (ev_g (by simp) (ev_opt hx (ev_r (by show _ = if oldB now q.2 = true then noT 0 else okT q.2; rw [ho]; rfl))))
abbrev keep (now : Int) (x : TTalk) : Bool := !oldB now x
theorem compact (now : Int) (l : List TTalk) (hl : l.length < Big) : ∀ (c j i : Nat) (L : List TTalk) (n : Nat), j + c = l.length -> c < n -> L.length = l.length -> i <= j -> L.take i = (l.take j).filter (keep now) -> L.drop j = l.drop j ->
  ∃ (i' : Nat) (L' : List TTalk), loopO 1850005 (fun x => (dfTalk_step185_5 x).eval) n ((j : Int), ((i : Int), (L, (now, ())))) = some ((i' : Int), (L', (now, ()))) /\ L'.length = l.length /\ i' <= l.length /\ L'.take i' = l.filter (keep now) := by
 unfold Big at hl
 intro c
 induction c with
 | zero =>
  intro j i L n hj hn hL hij ht hd
  obtain ⟨n, rfl⟩ : ∃ m, n = m + 1 := ⟨n - 1, by omega⟩
  have : j = l.length := by omega
  subst this
  refine ⟨i, L, loopO_out (ev_f (by simp <;> omega) (ev_g (by simp) (ev_r rfl))), hL, hij, ?_⟩
  rw [ht, List.take_length]
 | succ c ih =>
  intro j i L n hj hn hL hij ht hd
  obtain ⟨n, rfl⟩ : ∃ m, n = m + 1 := ⟨n - 1, by omega⟩
  have hjl : j < l.length := by omega
  have hx : L[j]? = l[j]? := by have := congrArg (·[0]?) hd; simpa using this
  have hxl : l[j]? = some l[j] := List.getElem?_eq_getElem hjl
  generalize hxx : l[j] = x at hxl
  rw [hxl] at hx
  have hi : L[i]? = some L[i] := List.getElem?_eq_getElem (by omega)
  have hfil : (l.take (j + 1)).filter (keep now) = (l.take j).filter (keep now) ++ [x].filter (keep now) := by
   rw [List.take_add_one, hxl, List.filter_append]; rfl
  have hdd : L.drop (j + 1) = l.drop (j + 1) := by rw [<- List.drop_drop, hd, List.drop_drop]
  cases ho : oldB now x with
  | true =>
   have hs : (dfTalk_step185_5 ((j : Int), ((i : Int), (L, (now, ()))))).eval = some (.inl (((j + 1 : Nat) : Int), ((i : Int), (L, (now, ()))))) := by
     unfold dfTalk_step185_5
     exact ev_t (by simp <;> omega) (ev_g (by simp <;> omega) (ev_opt (b := x) (by simpa using hx) (ev_opt (old_fn now x) (ev_f (by simp [ho]) (ev_g (by simp) (ev_r (by rw [next_i64 j (by omega)])))))))
   rw [loopO_in hs]
   refine ih (j + 1) i L n (by omega) (by omega) hL (by omega) ?_ hdd
   rw [hfil, ht]; simp [keep, ho]
  | false =>
   have hs : (dfTalk_step185_5 ((j : Int), ((i : Int), (L, (now, ()))))).eval = some (.inl (((j + 1 : Nat) : Int), (((i + 1 : Nat) : Int), (L.set i x, (now, ()))))) := by
     unfold dfTalk_step185_5
     exact ev_t (by simp <;> omega) (ev_g (by simp <;> omega) (ev_opt (b := x) (by simpa using hx) (ev_opt (old_fn now x) (ev_t (by simp [ho]) (ev_g (by simp <;> omega) (ev_opt (b := L[i]) (by simpa using hi) (ev_g (by simp) (ev_r (by rw [next_i64 j (by omega), next_i64 i (by omega)]; rfl)))))))))
   rw [loopO_in hs]
   refine ih (j + 1) (i + 1) (L.set i x) n (by omega) (by omega) (by simpa using hL) (by omega) ?_ ?_
   . rw [hfil, <- ht, List.take_add_one, List.take_set_of_le (Nat.le_refl i), List.getElem?_set_self (by omega)]
     simp [keep, ho]
   . rw [List.drop_set_of_lt (by omega), hdd]
theorem young_fn (now : Int) (l : List TTalk) (hl : l.length < Big) : dfTalk_fn (now, (l, ())) = some (now, (l.filter (keep now), ())) := by
 have hl' := hl
 unfold Big at hl'
 unfold dfTalk_fn dfTalk_tree
 have := loop_hit (tag := 1580002) (f := fun x => (dfTalk_step158_2 x).eval) (l := l) (fun i => ((i : Int), (l, ((l.length : Int), (now, ()))))) (oldB now)
   (fun q => match q with | some q => Sum.inl ((q.1 : Int), (now, ())) | none => Sum.inr (now, ()))
   (fun i x hx => by
    have hi := (List.getElem?_eq_some_iff.1 hx).1
    show (dfTalk_step158_2 _).eval = _
    unfold dfTalk_step158_2
    refine ev_t (by simp <;> omega) (ev_g (by simp) (ev_opt (show l[Int.toNat (i : Int)]? = some x by simpa using hx) (ev_opt (old_fn now x) ?_)))
    cases oldB now x with
    | true => exact ev_t rfl (ev_r rfl)
    | false => exact ev_f rfl (ev_r (by rw [next_i64 i (by omega)])))
   (by show (dfTalk_step158_2 _).eval = _; exact ev_f (by simp) (ev_r rfl)) 18446744073709551616 (by omega)
 refine ev_opt (show dfTalk_loop158_2 ((0 : Int), (l, ((l.length : Int), (now, ())))) = _ from this) ?_
 cases h : hit (oldB now) l with
 | none =>
  have hall := hit_none.1 h
  have e : l.filter (keep now) = l := List.filter_eq_self.2 fun x hx => by simp [keep, hall x hx]
  rw [e]
  exact ev_t rfl (ev_g (by simp) (ev_r rfl))
 | some q =>
  obtain ⟨i, x⟩ := q
  have hi := hit_lt h
  have hx := hit_at h
  have e1 : l = l.take i ++ x :: l.drop (i + 1) := by
   obtain ⟨_, rfl⟩ := List.getElem?_eq_some_iff.1 hx.1
   rw [<- List.drop_eq_getElem_cons hi, List.take_append_drop]
  have hpre : ∀ y ∈ l.take i, oldB now y = false := by
   have : hit (oldB now) l = hit (oldB now) (l.take i ++ x :: l.drop (i + 1)) := congrArg _ e1
   rw [hit_app] at this
   cases h3 : hit (oldB now) (l.take i) with
   | none => exact hit_none.1 h3
   | some q =>
    have h4 := hit_lt (i := q.1) (x := q.2) h3
    rw [h, h3] at this
    simp at this h4
    have := congrArg Prod.fst this
    simp at this; omega
  have ht : l.take i = (l.take (i + 1)).filter (keep now) := by
   rw [List.take_add_one, hx.1, List.filter_append, List.filter_eq_self.2 fun y hy => by simp [keep, hpre y hy]]
   simp [keep, hx.2]
  obtain ⟨i', L', hlp, h1, h2, h3⟩ := compact now l hl (l.length - (i + 1)) (i + 1) i l 18446744073709551616 (by omega) (by omega) rfl (by omega) ht rfl
  show (Tr.ite (decide ((i : Int) = -1)) _ _).eval = _
  refine ev_f (by simp) (ev_g (by simp) ?_)
  rw [next_i64 i (by omega)]
  refine ev_opt (show dfTalk_loop185_5 _ = _ from hlp) ?_
  have e4 : ∀ (Y Z : List TTalk), List.take i' (List.take i' L' ++ Y ++ Z) = List.take i' L' := fun Y Z => by
   rw [List.append_assoc, List.take_append_of_le_length (by simp <;> omega), List.take_take, Nat.min_self]
  simp only [Int.toNat_natCast, e4]
  simp only [h3]
  have hfl : (l.filter (keep now)).length = i' := by rw [<- h3]; simp; omega
  exact ev_g (by simp <;> omega) (ev_g (by simp <;> omega) (ev_g (by simp <;> omega) (ev_g (by simp [hfl]) (ev_r rfl))))
theorem delTalk_ok (l : List TTalk) (i : Nat) (hi : i < l.length) : delTalk_fn ((i : Int), (((i + 1 : Nat) : Int), (l, ()))) = some (l.take i ++ l.drop (i + 1), ()) := by
 unfold delTalk_fn delTalk_tree
 have hj : Int.toNat ((l.length : Int) - ((i + 1 : Nat) : Int)) = l.length - (i + 1) := by omega
 have hB : (List.take (l.length - (i + 1)) (List.drop (i + 1) l)).length = l.length - (i + 1) := by simp
 simp only [Int.toNat_natCast, hj]
 refine ev_g (by simp <;> omega) (ev_f (by simp <;> omega) (ev_g (by simp <;> omega) (ev_g (by simp <;> omega) (ev_g (by simp <;> omega) (ev_g (by rw [hB]; simp; omega) ?_)))))
 refine ev_g (by simp [hB]; omega) (ev_g (by simp [hB]; omega) (ev_g (by simp [hB]; omega) (ev_r ?_)))
 simp only [del_eq l i (i + 1) (by omega) (by omega)]

def hearTail (a0 : List TTalk) (a1 a2 a3 a4 a5 a6 : Int) : Tr ((List TTalk) × (Bool × (Int × Unit))) :=
 .grd (decide (((0 : Nat) + List.length a0) * (48 : Nat) <= (140737488355328 : Nat) /\ (0 : Nat) + List.length a0 <= (9223372036854775807 : Nat))) (
 .grd (decide (List.length a0 = List.length a0)) (
 .opt (β := (Int × ((List TTalk) × Unit))) ((dfTalk_fn (a6, (a0, ())))) (fun r2 =>
 .opt (β := (Int × Unit)) ((trPlace_fn (r2.2.1, (a1, (a2, (a3, (a4, ()))))))) (fun r3 =>
 .ite (decide (r3.1 < (0 : Int))) (
 .ite (!((!decide (bits BinOp.and IntKind.i64 a5 (2 : Int) = (0 : Int))) == true && ((!decide (bits BinOp.and IntKind.i64 a5 (16 : Int) = (0 : Int))) == false && ((!decide (bits BinOp.and IntKind.i64 a5 (1 : Int) = (0 : Int))) == false && ((!decide (bits BinOp.and IntKind.i64 a5 (4 : Int) = (0 : Int))) == false && true))))) (
 .ret (r2.2.1, (false, ((0 : Int), ())))) (
 .ite (decide ((↑(List.length r2.2.fst) : Int) = (64 : Int))) (
 .ret (a0, (false, ((6 : Int), ())))) (
 .grd (decide ((List.length r2.2.1 + List.length [TTalk.mk a1 a2 a3 a4 (1 : Int) (0 : Int) r2.1]) * (48 : Nat) <= (140737488355328 : Nat) /\ List.length r2.2.1 + List.length [TTalk.mk a1 a2 a3 a4 (1 : Int) (0 : Int) r2.1] <= (9223372036854775807 : Nat))) (
 .ret (r2.2.1 ++ [TTalk.mk a1 a2 a3 a4 (1 : Int) (0 : Int) r2.1], (true, ((0 : Int), ()))))))) (
 .grd (decide ((0 : Int) <= r3.1 /\ r3.1 < (↑(List.length r2.2.fst) : Int))) (
 .opt (β := TTalk) (r2.2.1[Int.toNat r3.1]?) (fun r4 =>
 .ite (!!decide (bits BinOp.and IntKind.i64 a5 (4 : Int) = (0 : Int))) (
 .opt (β := (Bool × (Int × (Int × (Int × (Int × (Int × (Int × (Int × Unit))))))))) ((trPasses_fn (!decide (bits BinOp.and IntKind.i64 a5 (2 : Int) = (0 : Int)), (!decide (bits BinOp.and IntKind.i64 a5 (16 : Int) = (0 : Int)), (!decide (bits BinOp.and IntKind.i64 a5 (1 : Int) = (0 : Int)), (!decide (bits BinOp.and IntKind.i64 a5 (4 : Int) = (0 : Int)), (decide (r4.from' = a1) && (decide (r4.to = a2) && (decide (r4.fromPort = a3) && (decide (r4.toPort = a4) && true))), (r4.from', (r4.to, (r4.fromPort, (r4.toPort, (r4.state, (r4.over, (r4.at', ())))))))))))))) (fun r5 =>
 .ite (!r5.1) (
 .ret (r2.2.1, (false, ((0 : Int), ())))) (
 .grd (decide (List.length r2.2.fst = List.length r2.2.1)) (
 .opt (β := ((List TTalk) × Unit)) ((delTalk_fn (r3.1, (IntKind.wrap IntKind.i64 (r3.1 + (1 : Int)), (r2.2.1, ()))))) (fun r6 =>
 .ite (!decide (bits BinOp.and IntKind.i64 a5 (4 : Int) = (0 : Int))) (
 .ret (r6.1, (true, ((0 : Int), ())))) (
 .grd (decide ((List.length r6.1 + List.length [TTalk.mk r5.2.1 r5.2.2.1 r5.2.2.2.1 r5.2.2.2.2.1 r5.2.2.2.2.2.1 r5.2.2.2.2.2.2.1 r2.1]) * (48 : Nat) <= (140737488355328 : Nat) /\ List.length r6.1 + List.length [TTalk.mk r5.2.1 r5.2.2.1 r5.2.2.2.1 r5.2.2.2.2.1 r5.2.2.2.2.2.1 r5.2.2.2.2.2.2.1 r2.1] <= (9223372036854775807 : Nat))) (
 .ret (r6.1 ++ [TTalk.mk r5.2.1 r5.2.2.1 r5.2.2.2.1 r5.2.2.2.2.1 r5.2.2.2.2.2.1 r5.2.2.2.2.2.2.1 r2.1], (true, ((0 : Int), ())))))))))) (
 .grd (decide (List.length r2.2.fst = List.length r2.2.1)) (
 .opt (β := ((List TTalk) × Unit)) ((delTalk_fn (r3.1, (IntKind.wrap IntKind.i64 (r3.1 + (1 : Int)), (r2.2.1, ()))))) (fun r5 =>
 .ite (!decide (bits BinOp.and IntKind.i64 a5 (4 : Int) = (0 : Int))) (
 .ret (r5.1, (true, ((0 : Int), ())))) (
 .grd (decide ((List.length r5.1 + List.length [TTalk.mk r4.from' r4.to r4.fromPort r4.toPort r4.state r4.over r2.1]) * (48 : Nat) <= (140737488355328 : Nat) /\ List.length r5.1 + List.length [TTalk.mk r4.from' r4.to r4.fromPort r4.toPort r4.state r4.over r2.1] <= (9223372036854775807 : Nat))) (
 .ret (r5.1 ++ [TTalk.mk r4.from' r4.to r4.fromPort r4.toPort r4.state r4.over r2.1], (true, ((0 : Int), ())))))))))))))))

def last (l : List TTalk) : Int := match l.getLast? with | some y => y.at' | none => 0
def InR (l : List TTalk) (w : Rd4) (flags now : Int) : Prop := roadB w = true /\ 0 <= flags /\ flags <= 255 /\ last l <= now /\ now <= 1099511627776
theorem hear_good (l : List TTalk) (w : Rd4) (flags now : Int) (hg : Good l) (hr : InR l w flags now) : trHear_fn (l, (w.a, (w.b, (w.p, (w.q, (flags, (now, ()))))))) = (hearTail l w.a w.b w.p w.q flags now).eval := by
 obtain ⟨c, hc, hc0⟩ := checkT_fn l
 have hlen := hg.1
 obtain ⟨r1, r2, r3, r4, r5⟩ := hr
 unfold trHear_fn trHear_tree
 refine ev_g (by simp <;> omega) (ev_opt hc (ev_f (by simp [hc0.2 hg]) ?_))
 rcases List.eq_nil_or_concat l with e | ⟨q, y, e⟩
 . subst e
   refine ev_f (by simp) (ev_opt (road_fn w) (ev_f (by simp [r1]) (ev_f (by simp <;> omega) (ev_f (by simp <;> omega) (ev_f (by simp [last] at r4 ⊢; omega) (ev_f (by simp <;> omega) rfl))))))
 . rw [List.concat_eq_append] at e
   have hl : last l = y.at' := by rw [e]; simp [last]
   have hp : IntKind.wrap IntKind.i64 ((l.length : Int) - 1) = (q.length : Int) := by rw [prev_i64 _ (by rw [e]; simp) (by omega)]; rw [e]; simp
   have hll : l.length = q.length + 1 := by rw [e]; simp
   refine ev_t (by simp <;> omega) ?_
   rw [hp]
   refine ev_g (by simp <;> omega) (ev_opt (b := y) (by rw [e]; simp) (ev_opt (road_fn w) (ev_f (by simp [r1]) (ev_f (by simp <;> omega) (ev_f (by simp <;> omega) (ev_f (by simp <;> omega) (ev_f (by simp <;> omega) rfl)))))))
theorem hear_bad (l : List TTalk) (w : Rd4) (flags now : Int) (hb : l.length * 48 <= 140737488351232) (h : ¬ (Good l /\ InR l w flags now)) : ∃ e : Int, e ≠ 0 /\ trHear_fn (l, (w.a, (w.b, (w.p, (w.q, (flags, (now, ()))))))) = some (l, (false, (e, ()))) := by
 obtain ⟨c, hc, hc0⟩ := checkT_fn l
 unfold trHear_fn trHear_tree
 by_cases hg : c = 0
 case neg => exact ⟨c, hg, ev_g (by simp <;> omega) (ev_opt hc (ev_t (by simpa using hg) (ev_r rfl)))⟩
 have hG := hc0.1 hg
 refine ⟨1, by decide, ev_g (by simp <;> omega) (ev_opt hc (ev_f (by simp [hg]) ?_))⟩
 have hlen := hG.1
 rcases List.eq_nil_or_concat l with e | ⟨q, y, e⟩
 . subst e
   refine ev_f (by simp) (ev_opt (road_fn w) ?_)
   cases r1 : roadB w with
   | false => exact ev_t rfl (ev_r rfl)
   | true =>
   refine ev_f rfl (ev_ite (fun _ => ev_r rfl) fun r2 => ev_ite (fun _ => ev_r rfl) fun r3 => ev_ite (fun _ => ev_r rfl) fun r4 => ev_ite (fun _ => ev_r rfl) fun r5 => ?_)
   exfalso
   simp at r2 r3 r4 r5
   exact h ⟨hG, r1, by omega, by omega, by simp [last]; omega, by omega⟩
 . rw [List.concat_eq_append] at e
   have hl : last l = y.at' := by rw [e]; simp [last]
   have hll : l.length = q.length + 1 := by rw [e]; simp
   have hp : IntKind.wrap IntKind.i64 ((l.length : Int) - 1) = (q.length : Int) := by rw [prev_i64 _ (by omega) (by omega)]; congr 1; omega
   refine ev_t (by simp <;> omega) ?_
   rw [hp]
   refine ev_g (by simp <;> omega) (ev_opt (b := y) (by rw [e]; simp) (ev_opt (road_fn w) ?_))
   cases r1 : roadB w with
   | false => exact ev_t rfl (ev_r rfl)
   | true =>
   refine ev_f rfl (ev_ite (fun _ => ev_r rfl) fun r2 => ev_ite (fun _ => ev_r rfl) fun r3 => ev_ite (fun _ => ev_r rfl) fun r4 => ev_ite (fun _ => ev_r rfl) fun r5 => ?_)
   exfalso
   simp at r2 r3 r4 r5
   exact h ⟨hG, r1, by omega, by omega, by omega, by omega⟩

def synOnly (flags : Int) : Bool := ((!decide (bits BinOp.and IntKind.i64 flags (2 : Int) = (0 : Int))) == true && ((!decide (bits BinOp.and IntKind.i64 flags (16 : Int) = (0 : Int))) == false && ((!decide (bits BinOp.and IntKind.i64 flags (1 : Int) = (0 : Int))) == false && ((!decide (bits BinOp.and IntKind.i64 flags (4 : Int) = (0 : Int))) == false && true))))
def rstB (flags : Int) : Bool := !decide (bits BinOp.and IntKind.i64 flags (4 : Int) = (0 : Int))
abbrev Young (l : List TTalk) (now : Int) : List TTalk := l.filter (keep now)
theorem tail_none (l : List TTalk) (w : Rd4) (flags now : Int) (hg : Good l) (h : hit (meet w) (Young l now) = none) : (hearTail l w.a w.b w.p w.q flags now).eval =
  some (if synOnly flags then if (Young l now).length = 64 then (l, (false, (6, ()))) else (Young l now ++ [⟨w.a, w.b, w.p, w.q, 1, 0, now⟩], (true, (0, ()))) else (Young l now, (false, (0, ())))) := by
 have hlen := hg.1
 have hyl : (Young l now).length <= 64 := Nat.le_trans (List.length_filter_le _ _) hlen
 unfold hearTail
 refine ev_g (by simp <;> omega) (ev_g (by simp) (ev_opt (young_fn now l (by unfold Big; omega)) (ev_opt (placeT_fn (Young l now) w (by unfold Big; omega)) ?_)))
 rw [h]
 refine ev_t rfl ?_
 cases hs : synOnly flags with
 | false => exact ev_t (by show (!synOnly flags) = true; rw [hs]; rfl) (ev_r rfl)
 | true =>
  refine ev_f (by show (!synOnly flags) = false; rw [hs]; rfl) ?_
  by_cases h64 : (Young l now).length = 64
  . exact ev_t (decide_eq_true (by show (((Young l now).length : Nat) : Int) = 64; omega)) (ev_r (by rw [if_pos rfl, if_pos h64]))
  . exact ev_f (decide_eq_false (by show ¬ (((Young l now).length : Nat) : Int) = 64; omega)) (ev_g (decide_eq_true (by show ((Young l now).length + 1) * 48 <= 140737488355328 /\ (Young l now).length + 1 <= 9223372036854775807; omega)) (ev_r (by rw [if_pos rfl, if_neg h64])))
theorem tail_some (l : List TTalk) (w : Rd4) (flags now : Int) (hg : Good l) {i : Nat} {x : TTalk} (h : hit (meet w) (Young l now) = some (i, x)) (hr : rstB flags = true) : (hearTail l w.a w.b w.p w.q flags now).eval = some ((Young l now).take i ++ (Young l now).drop (i + 1), (true, (0, ()))) := by
 have hlen := hg.1
 have hyl : (Young l now).length <= 64 := Nat.le_trans (List.length_filter_le _ _) hlen
 have hi := hit_lt h
 have hx := (hit_at h).1
 unfold rstB at hr
 unfold hearTail
 refine ev_g (by simp <;> omega) (ev_g (by simp) (ev_opt (young_fn now l (by unfold Big; omega)) (ev_opt (placeT_fn (Young l now) w (by unfold Big; omega)) ?_)))
 rw [h]
 show (Tr.ite (decide ((i : Int) < 0)) _ _).eval = _
 refine ev_f (by simp) (ev_g (by simp; exact hi) (ev_opt (b := x) (by simpa using hx) (ev_f (by rw [hr]; rfl) (ev_g (by simp) ?_))))
 show (Tr.opt (delTalk_fn ((i : Int), (IntKind.wrap IntKind.i64 ((i : Int) + 1), (Young l now, ())))) _).eval = _
 rw [next_i64 i (by omega)]
 exact ev_opt (delTalk_ok _ i hi) (ev_t hr (ev_r rfl))
theorem young_sub (l : List TTalk) (now : Int) : (Young l now).Sublist l := List.filter_sublist
theorem young_mem {l : List TTalk} {now : Int} {x : TTalk} : x ∈ Young l now ↔ x ∈ l /\ oldB now x = false := by simp [Young, keep]
theorem out_none {l : List TTalk} (hg : Good l) (w : Rd4) {i : Nat} {x : TTalk} (h : hit (meet w) l = some (i, x)) : ∀ y ∈ l.take i ++ l.drop (i + 1), meet w y = false := by
 obtain ⟨hx, hm⟩ := hit_at h
 have hi := hit_lt h
 have e1 : l = l.take i ++ x :: l.drop (i + 1) := by
  obtain ⟨_, rfl⟩ := List.getElem?_eq_some_iff.1 hx
  rw [<- List.drop_eq_getElem_cons hi, List.take_append_drop]
 have hp := hg.2.2
 rw [e1, List.pairwise_append] at hp
 intro y hy
 cases my : meet w y with
 | false => rfl
 | true =>
  rcases List.mem_append.1 hy with hy | hy
  . have := (hp.2.2 y hy x List.mem_cons_self).2
    rw [meet_same my hm] at this; cases this
  . have := ((List.pairwise_cons.1 hp.2.1).1 y hy).2
    rw [meet_same hm my] at this; cases this
theorem out_sub (l : List TTalk) (i : Nat) : (l.take i ++ l.drop (i + 1)).Sublist l := by
 conv => rhs; rw [<- List.take_append_drop i l]
 refine List.Sublist.append (List.Sublist.refl _) ?_
 rw [<- List.drop_drop]
 exact List.drop_sublist 1 _
def openP (ack syn fin op : Bool) (st ov : Int) : Bool × (Int × Int) :=
 if !ack || syn then (false, (st, ov)) else
  let ov' : Int := if fin then if op then bits BinOp.or IntKind.i64 ov (1 : Int) else bits BinOp.or IntKind.i64 ov (2 : Int) else ov
  (true, (if ov' = 3 then 4 else if (3 : Int) > st then 3 else st, ov'))
def passP (syn ack fin op : Bool) (st ov : Int) : Bool × (Int × Int) :=
 if decide (st <= 2) && (op && syn && !ack && !fin) then (true, (st, ov))
 else if decide (st <= 2) && (!op && syn && ack && !fin) then (true, (2, ov))
 else if decide (st = 1) || (decide (st = 2) && !op) then (false, (st, ov))
 else openP ack syn fin op st ov
def sts : List (Int × Int) := [(1, 0), (2, 0), (3, 0), (3, 1), (3, 2), (4, 3)]
theorem pass_fn (syn ack fin rst op : Bool) (a b p q at' : Int) : ∀ s ∈ sts, trPasses_fn (syn, (ack, (fin, (rst, (op, (a, (b, (p, (q, (s.1, (s.2, (at', ())))))))))))) = some ((passP syn ack fin op s.1 s.2).1, (a, (b, (p, (q, ((passP syn ack fin op s.1 s.2).2.1, ((passP syn ack fin op s.1 s.2).2.2, (at', ()))))))))  := by
 intro s hs
 simp only [sts, List.mem_cons, List.not_mem_nil, or_false] at hs
 rcases hs with rfl | rfl | rfl | rfl | rfl | rfl <;> cases syn <;> cases ack <;> cases fin <;> cases rst <;> cases op <;> kernel_rfl
theorem pass_sts : ∀ (syn ack fin op : Bool), ∀ s ∈ sts, ((passP syn ack fin op s.1 s.2).2.1, (passP syn ack fin op s.1 s.2).2.2) ∈ sts := by decide +kernel
theorem stB_sts {x : TTalk} (h : stB x = true) : (x.state, x.over) ∈ sts := by
 unfold stB at h
 simp only [sts, List.mem_cons, List.not_mem_nil, or_false, Prod.mk.injEq]
 split at h
 . simp at h; omega
 . split at h
   . simp at h; omega
   . split at h
     . simp at h; omega
     . split at h
       . simp at h; omega
       . cases h
theorem sts_stB {x : TTalk} (h : (x.state, x.over) ∈ sts) : stB x = true := by
 simp only [sts, List.mem_cons, List.not_mem_nil, or_false, Prod.mk.injEq] at h
 unfold stB
 rcases h with ⟨h, k⟩ | ⟨h, k⟩ | ⟨h, k⟩ | ⟨h, k⟩ | ⟨h, k⟩ | ⟨h, k⟩ <;> rw [h, k] <;> rfl
theorem form_st {x : TTalk} (h : formB x = true) : roadB (rdOf x) = true /\ 0 <= x.at' /\ x.at' <= 1099511627776 /\ stB x = true := by
 simpa only [formB, Bool.and_eq_true, decide_eq_true_eq] using h
theorem form_mk {x : TTalk} (h1 : roadB (rdOf x) = true) (h2 : 0 <= x.at') (h3 : x.at' <= 1099511627776) (h4 : stB x = true) : formB x = true := by
 simp only [formB, Bool.and_eq_true, decide_eq_true_eq]
 exact ⟨h1, h2, h3, h4⟩
theorem tail_pass (l : List TTalk) (w : Rd4) (flags now : Int) (hg : Good l) {i : Nat} {x : TTalk} (h : hit (meet w) (Young l now) = some (i, x)) (hr : rstB flags = false) :
  ∃ (b : Bool) (x' : TTalk), rdOf x' = rdOf x /\ x'.at' = now /\ stB x' = true /\ (hearTail l w.a w.b w.p w.q flags now).eval = some (if b then ((Young l now).take i ++ (Young l now).drop (i + 1) ++ [x'], (true, (0, ()))) else (Young l now, (false, (0, ())))) := by
 have hlen := hg.1
 have hyl : (Young l now).length <= 64 := Nat.le_trans (List.length_filter_le _ _) hlen
 have hi := hit_lt h
 have hx := (hit_at h).1
 have hxf := form_st (hg.2.1 x (young_mem.1 (List.mem_of_getElem? hx)).1)
 have hs := stB_sts hxf.2.2.2
 unfold rstB at hr
 generalize hsy : (!decide (bits BinOp.and IntKind.i64 flags (2 : Int) = (0 : Int))) = syn
 generalize hac : (!decide (bits BinOp.and IntKind.i64 flags (16 : Int) = (0 : Int))) = ack
 generalize hfi : (!decide (bits BinOp.and IntKind.i64 flags (1 : Int) = (0 : Int))) = fin
 generalize hop : (decide (x.from' = w.a) && (decide (x.to = w.b) && (decide (x.fromPort = w.p) && (decide (x.toPort = w.q) && true)))) = op
 have hp := pass_fn syn ack fin false op x.from' x.to x.fromPort x.toPort x.at' _ hs
 have hq := pass_sts syn ack fin op _ hs
 generalize hP : passP syn ack fin op x.state x.over = P at hp hq
 obtain ⟨b, st', ov'⟩ := P
 refine ⟨b, ⟨x.from', x.to, x.fromPort, x.toPort, st', ov', now⟩, rfl, rfl, sts_stB hq, ?_⟩
 unfold hearTail
 refine ev_g (by simp <;> omega) (ev_g (by simp) (ev_opt (young_fn now l (by unfold Big; omega)) (ev_opt (placeT_fn (Young l now) w (by unfold Big; omega)) ?_)))
 rw [h]
 show (Tr.ite (decide ((i : Int) < 0)) _ _).eval = _
 refine ev_f (by simp) (ev_g (by simp; exact hi) (ev_opt (b := x) (by simpa using hx) (ev_t (by rw [hr]; rfl) ?_)))
 rw [hsy, hac, hfi, hr, hop]
 refine ev_opt hp ?_
 cases b with
 | false => exact ev_t rfl (ev_r rfl)
 | true =>
  refine ev_f rfl (ev_g (by simp) ?_)
  show (Tr.opt (delTalk_fn ((i : Int), (IntKind.wrap IntKind.i64 ((i : Int) + 1), (Young l now, ())))) _).eval = _
  rw [next_i64 i (by omega)]
  refine ev_opt (delTalk_ok _ i hi) (ev_f (by rfl) (ev_g (decide_eq_true ?_) (ev_r rfl)))
  show (((Young l now).take i ++ (Young l now).drop (i + 1)).length + 1) * 48 <= 140737488355328 /\ ((Young l now).take i ++ (Young l now).drop (i + 1)).length + 1 <= 9223372036854775807
  have := (out_sub (Young l now) i).length_le
  omega
theorem last_le {l : List TTalk} (hg : Good l) : ∀ x ∈ l, x.at' <= last l := by
 intro x hx
 rcases List.eq_nil_or_concat l with e | ⟨q, y, e⟩
 . subst e; simp at hx
 . rw [List.concat_eq_append] at e
   subst e
   have : last (q ++ [y]) = y.at' := by simp [last]
   rw [this]
   have hp := List.pairwise_append.1 hg.2.2
   rcases List.mem_append.1 hx with h | h
   . exact (hp.2.2 x h y (by simp)).1
   . have : x = y := by simpa using h
     rw [this]; exact Int.le_refl _
theorem good_add {a : List TTalk} {x : TTalk} (ha : Good a) (hl : a.length < 64) (hf : formB x = true) (ht : ∀ y ∈ a, y.at' <= x.at') (hm : ∀ y ∈ a, meet (rdOf x) y = false) : Good (a ++ [x]) := by
 refine ⟨by simp; omega, fun y hy => ?_, ?_⟩
 . rcases List.mem_append.1 hy with h | h
   . exact ha.2.1 y h
   . have : y = x := by simpa using h
     rw [this]; exact hf
 . rw [List.pairwise_append]
   refine ⟨ha.2.2, List.pairwise_singleton _ _, fun y hy z hz => ?_⟩
   have : z = x := by simpa using hz
   subst this
   refine ⟨ht y hy, ?_⟩
   cases h : meet (rdOf y) z with
   | false => rfl
   | true => have := hm y hy; rw [meet_same h (meet_self y)] at this; cases this
theorem fst_out {p : TTalk -> Bool} {l : List TTalk} {i : Nat} {x : TTalk} (hx : l[i]? = some x) (hp : p x = false) : fst p (l.take i ++ l.drop (i + 1)) = fst p l := by
 obtain ⟨hi, rfl⟩ := List.getElem?_eq_some_iff.1 hx
 have e1 : l = l.take i ++ l[i] :: l.drop (i + 1) := by rw [<- List.drop_eq_getElem_cons hi, List.take_append_drop]
 have : fst p l = fst p (l.take i ++ l[i] :: l.drop (i + 1)) := congrArg _ e1
 rw [this, fst_app, fst_app, fst_cons, hp]
theorem fst_one {p : TTalk -> Bool} (a : List TTalk) {x : TTalk} (hp : p x = false) : fst p (a ++ [x]) = fst p a := by
 rw [fst_app, fst_cons, hp]
 show (fst p a).or none = fst p a
 cases fst p a <;> rfl
theorem hear_all (l : List TTalk) (w : Rd4) (flags now : Int) (hg : Good l) (hr : InR l w flags now) : ∃ (a : List TTalk) (ok : Bool) (e : Int), trHear_fn (l, (w.a, (w.b, (w.p, (w.q, (flags, (now, ()))))))) = some (a, (ok, (e, ()))) /\
  ((e ≠ 0 /\ a = l /\ ok = false) \/ (e = 0 /\ Good a /\ (∀ v, v ≠ w -> v ≠ turn w -> fst (meet v) a = fst (meet v) (Young l now)) /\ (ok = false -> a = Young l now) /\ a.length <= l.length + 1)) := by
 rw [hear_good l w flags now hg hr]
 obtain ⟨r1, r2, r3, r4, r5⟩ := hr
 have hgy : Good (Young l now) := hg.sub (young_sub l now)
 have hyl : (Young l now).length <= l.length := List.length_filter_le _ _
 have hnow : ∀ y ∈ Young l now, y.at' <= now := fun y hy => Int.le_trans (last_le hg y (young_mem.1 hy).1) r4
 have hn0 : 0 <= now := by
  have : 0 <= last l := by
   unfold last
   cases h : l.getLast? with
   | none => simp
   | some y => exact (form_st (hg.2.1 y (List.mem_of_getLast? h))).2.1
  omega
 cases h : hit (meet w) (Young l now) with
 | none =>
  rw [tail_none l w flags now hg h]
  have hno := hit_none.1 h
  cases hs : synOnly flags with
  | false => exact ⟨_, _, _, rfl, .inr ⟨rfl, hgy, fun _ _ _ => rfl, fun _ => rfl, by omega⟩⟩
  | true =>
   by_cases h64 : (Young l now).length = 64
   . rw [if_pos rfl, if_pos h64]; exact ⟨_, _, _, rfl, .inl ⟨by decide, rfl, rfl⟩⟩
   . rw [if_pos rfl, if_neg h64]
     have hlen := hg.1
     refine ⟨_, _, _, rfl, .inr ⟨rfl, good_add hgy (by omega) (form_mk r1 hn0 r5 rfl) hnow hno, fun v h1 h2 => fst_one _ ?_, (by intro hh; cases hh), by simp; omega⟩⟩
     have : meet w ⟨w.a, w.b, w.p, w.q, 1, 0, now⟩ = true := meet_iff.2 (.inl rfl)
     exact meet_other this h1 h2
 | some q =>
  obtain ⟨i, x⟩ := q
  have hx := (hit_at h).1
  have hm := (hit_at h).2
  have hi := hit_lt h
  have hout := out_none hgy w h
  have hgo := hgy.sub (out_sub (Young l now) i)
  have holen : ((Young l now).take i ++ (Young l now).drop (i + 1)).length + 1 = (Young l now).length := by simp; omega
  cases hrst : rstB flags with
  | true =>
   rw [tail_some l w flags now hg h hrst]
   exact ⟨_, _, _, rfl, .inr ⟨rfl, hgo, fun v h1 h2 => fst_out hx (meet_other hm h1 h2), (by intro hh; cases hh), by omega⟩⟩
  | false =>
   obtain ⟨b, x', e1, e2, e3, e4⟩ := tail_pass l w flags now hg h hrst
   rw [e4]
   cases b with
   | false => exact ⟨_, _, _, rfl, .inr ⟨rfl, hgy, fun _ _ _ => rfl, fun _ => rfl, by omega⟩⟩
   | true =>
     have hxf := form_st (hgy.2.1 x (List.mem_of_getElem? hx))
     have hm' : meet w x' = true := by rw [meet_iff] at hm ⊢; rw [e1]; exact hm
     have hlen := hg.1
     refine ⟨_, _, _, rfl, .inr ⟨rfl, good_add hgo (by omega) (form_mk (by rw [e1]; exact hxf.1) (by rw [e2]; exact hn0) (by rw [e2]; exact r5) e3) (fun y hy => by rw [e2]; exact hnow y ((out_sub _ i).subset hy)) (fun y hy => ?_), fun v h1 h2 => ?_, (by intro hh; cases hh), ?_⟩⟩
     . have := hout y hy
       cases hh : meet (rdOf x') y with
       | false => rfl
       | true =>
        exfalso
        rw [meet_iff] at hm' hh
        have : meet w y = true := by
         rw [meet_iff]
         rcases hm' with k | k <;> rw [k] at hh
         . exact hh
         . rw [turn_turn] at hh; exact hh.symm
        rw [hout y hy] at this; cases this
     . rw [fst_one _ (meet_other hm' h1 h2)]
       exact fst_out hx (meet_other hm h1 h2)
     . show ((Young l now).take i ++ (Young l now).drop (i + 1) ++ [x']).length <= _
       rw [List.length_append]; simp only [List.length_singleton]; omega
theorem w64 (a : Nat) (h : a < 2 ^ 64) : IntKind.wrap IntKind.u64 (a : Int) = (a : Int) := by
 simp only [IntKind.wrap, IntKind.bits, IntKind.signed]
 simp
 omega
theorem and64 (a b : Nat) (ha : a < 2 ^ 64) (hb : b < 2 ^ 64) : bits BinOp.and IntKind.u64 (a : Int) (b : Int) = ((a &&& b : Nat) : Int) := bits_and_nat .u64 a b ha hb (fun h => by cases h)
theorem fdn (a k : Nat) : Int.fdiv (a : Int) ((2 : Int) ^ k) = ((a / 2 ^ k : Nat) : Int) := by
 rw [Int.fdiv_eq_ediv_of_nonneg _ (by exact_mod_cast Nat.zero_le (2 ^ k))]
 norm_cast
def frI (a1 : Int) : Int := bits BinOp.xor IntKind.u64 (if IntKind.signed IntKind.u64 = true then (-1 : Int) else IntKind.max IntKind.u64) a1
def mkI (a2 : Int) : Int := IntKind.wrap IntKind.u64 ((6148914691236517205 : Int) * (2 : Int) ^ min (Int.toNat (bits BinOp.and IntKind.i64 a2 (1 : Int))) (64 : Nat))
def oneI (k : Int) : Int := IntKind.wrap IntKind.u64 ((1 : Int) * (2 : Int) ^ min (Int.toNat k) (64 : Nat))
def letEnd (a0 a1 k : Int) : Tr (Int × (Int × (Int × (Int × Unit)))) := .ret (a0, (bits BinOp.or IntKind.u64 a1 (oneI k), (IntKind.wrap IntKind.i64 (a0 + k), ((0 : Int), ()))))
def letLow (a0 a1 x : Int) : Tr (Int × (Int × (Int × (Int × Unit)))) :=
 .grd (decide ((0 : Int) <= x /\ x <= (18446744073709551615 : Int))) (.grd (decide ((0 : Int) <= ctzI x)) (letEnd a0 a1 (ctzI x)))
def letTz (a0 a1 a2 : Int) : Tr (Int × (Int × (Int × (Int × Unit)))) :=
 .grd (decide ((0 : Int) <= bits BinOp.and IntKind.i64 a2 (1 : Int))) (
 .ite (decide (bits BinOp.and IntKind.u64 (frI a1) (mkI a2) = (0 : Int))) (letLow a0 a1 (frI a1)) (letLow a0 a1 (bits BinOp.and IntKind.u64 (frI a1) (mkI a2))))
def letMain (a0 a1 a2 : Int) : Tr (Int × (Int × (Int × (Int × Unit)))) :=
 .ite (decide (IntKind.wrap IntKind.i64 (a2 - a0) < (0 : Int))) (letTz a0 a1 a2) (
 .ite (decide ((63 : Int) < IntKind.wrap IntKind.i64 (a2 - a0))) (letTz a0 a1 a2) (
 .grd (decide ((0 : Int) <= IntKind.wrap IntKind.i64 (a2 - a0))) (
 .ite (decide (bits BinOp.and IntKind.u64 (Int.fdiv (frI a1) ((2 : Int) ^ min (Int.toNat (IntKind.wrap IntKind.i64 (a2 - a0))) (64 : Nat))) (1 : Int) = (0 : Int))) (letTz a0 a1 a2) (
 .grd (decide ((0 : Int) <= IntKind.wrap IntKind.i64 (a2 - a0))) (letEnd a0 a1 (IntKind.wrap IntKind.i64 (a2 - a0)))))))
theorem portsLet_short (a0 a1 a2 : Int) : portsLet_fn (a0, (a1, (a2, ()))) = (Tr.opt (β := (Int × Unit)) (portsCheck_fn (a0, (a1, ()))) (fun r0 =>
 .ite (!decide (r0.1 = (0 : Int))) (.ite (!decide (r0.1 = (0 : Int))) (.ret ((0 : Int), ((0 : Int), ((0 : Int), (r0.1, ()))))) (letMain a0 a1 a2)) (
 .ite (decide (a2 < (0 : Int))) (.ite true (.ret ((0 : Int), ((0 : Int), ((0 : Int), ((1 : Int), ()))))) (letMain a0 a1 a2)) (
 .ite (decide ((65535 : Int) < a2)) (.ite true (.ret ((0 : Int), ((0 : Int), ((0 : Int), ((1 : Int), ()))))) (letMain a0 a1 a2)) (
 .ite (decide (a1 = (18446744073709551615 : Int))) (.ite true (.ret ((0 : Int), ((0 : Int), ((0 : Int), ((6 : Int), ()))))) (letMain a0 a1 a2)) (
 .ite (!decide (r0.1 = (0 : Int))) (.ret ((0 : Int), ((0 : Int), ((0 : Int), (r0.1, ()))))) (letMain a0 a1 a2))))))).eval := rfl
def baseOk (b : Int) : Prop := 64 <= b /\ b <= 65472 /\ b % 64 = 0
theorem check_eq (b t : Int) : portsCheck_fn (b, (t, ())) = some (if 64 <= b /\ b <= 65472 /\ b % 64 = 0 then (0 : Int) else 1, ()) := by
 show (portsCheck_tree (b, (t, ()))).eval = _
 by_cases h1 : b < 64
 . refine ev_t (by simpa using h1) ?_
   rw [if_neg (by omega)]; rfl
 . refine ev_f (by simpa using h1) ?_
   by_cases h2 : 65472 < b
   . refine ev_t (by simpa using h2) ?_
     rw [if_neg (by omega)]; rfl
   . refine ev_f (by simpa using h2) (ev_g rfl ?_)
     have e : Int.tmod b 64 = b % 64 := Int.tmod_eq_emod_of_nonneg (by omega)
     by_cases h3 : b % 64 = 0
     . refine ev_f (by rw [e]; simpa using h3) ?_
       rw [if_pos (by omega)]; rfl
     . refine ev_t (by rw [e]; simpa using h3) ?_
       rw [if_neg (by omega)]; rfl
theorem check_ok {b : Int} (t : Int) (h : baseOk b) : portsCheck_fn (b, (t, ())) = some ((0 : Int), ()) := by
 rw [check_eq]; exact congrArg (fun z : Int => some (z, ())) (if_pos h)
theorem check_no {b : Int} (t : Int) (h : ¬ baseOk b) : portsCheck_fn (b, (t, ())) = some ((1 : Int), ()) := by
 rw [check_eq]; exact congrArg (fun z : Int => some (z, ())) (if_neg h)
theorem fr_nat (t : Nat) (ht : t < 2 ^ 64) : frI (t : Int) = ((2 ^ 64 - (t + 1) : Nat) : Int) := by
 have := not_u64 (t : Int) (by omega) (by omega)
 unfold frI
 rw [show (if IntKind.signed IntKind.u64 = true then (-1 : Int) else IntKind.max IntKind.u64) = IntKind.u64.max from rfl, this]
 omega
theorem fr_bit (t : Nat) (ht : t < 2 ^ 64) (i : Nat) : (2 ^ 64 - (t + 1)).testBit i = (decide (i < 64) && !t.testBit i) := Nat.testBit_two_pow_sub_succ ht i
theorem mk_nat (w : Int) (hw : 0 <= w /\ w <= 65535) : 0 <= bits BinOp.and IntKind.i64 w (1 : Int) /\ ((w % 2 = 0 /\ mkI w = ((6148914691236517205 : Nat) : Int)) \/ (w % 2 = 1 /\ mkI w = ((12297829382473034410 : Nat) : Int))) := by
 have e : bits BinOp.and IntKind.i64 w (1 : Int) = w % 2 := by
   have := bits_and_mask .i64 1 w hw.1 (by have : (2 : Int) ^ IntKind.i64.bits = 18446744073709551616 := rfl; omega) (by decide) (fun _ => by have : (2 : Int) ^ (IntKind.i64.bits - 1) = 9223372036854775808 := rfl; omega)
   exact this
 unfold mkI
 rw [e]
 refine ⟨by omega, ?_⟩
 have h2 : w % 2 = 0 \/ w % 2 = 1 := by omega
 rcases h2 with h | h
 . left; rw [h]; exact ⟨rfl, by decide⟩
 . right; rw [h]; exact ⟨rfl, by decide⟩
theorem mask_bit : ∀ i : Fin 64, Nat.testBit 6148914691236517205 i.val = decide (i.val % 2 = 0) /\ Nat.testBit 12297829382473034410 i.val = decide (i.val % 2 = 1) := by decide +kernel
theorem one_nat (k : Nat) (hk : k < 64) : oneI (k : Int) = ((2 ^ k : Nat) : Int) := by
 unfold oneI
 rw [Int.toNat_natCast, Nat.min_eq_left (by omega), Int.one_mul]
 have : ((2 : Int) ^ k) = ((2 ^ k : Nat) : Int) := by norm_cast
 rw [this]
 exact w64 _ (Nat.pow_lt_pow_right (by decide) hk)
theorem bit_eq (x k : Nat) (hx : x < 2 ^ 64) (hk : k < 64) : decide (bits BinOp.and IntKind.u64 (Int.fdiv (x : Int) ((2 : Int) ^ min (Int.toNat (k : Int)) (64 : Nat))) (1 : Int) = (0 : Int)) = !x.testBit k := by
 rw [Int.toNat_natCast, Nat.min_eq_left (by omega), fdn, show (1 : Int) = ((1 : Nat) : Int) from rfl, and64 _ _ (Nat.lt_of_le_of_lt (Nat.div_le_self _ _) hx) (by decide), Nat.and_one_is_mod, Nat.testBit_eq_decide_div_mod_eq]
 by_cases h : x / 2 ^ k % 2 = 1
 . rw [h]; decide
 . rw [show x / 2 ^ k % 2 = 0 by omega]; decide
theorem ctz_ok (x : Nat) (h0 : x ≠ 0) (hx : x < 2 ^ 64) : ∃ k : Nat, ctzI (x : Int) = (k : Int) /\ k < 64 /\ x.testBit k = true := by
 obtain ⟨h1, h2⟩ := Lib.lowest_bit 64 x h0 hx
 refine ⟨Lib.ctz 64 x, by unfold ctzI; rw [Int.toNat_natCast], h2, ?_⟩
 have := congrArg (fun y => Nat.testBit y (Lib.ctz 64 x)) h1
 simp only [Nat.testBit_and, Nat.testBit_two_pow_self] at this
 exact (Bool.and_eq_true_iff.1 this).1
theorem letEnd_eq (b : Int) (t k : Nat) (hb : baseOk b) (ht : t < 2 ^ 64) (hk : k < 64) : (letEnd b (t : Int) (k : Int)).eval = some (b, (((t ||| 2 ^ k : Nat) : Int), (b + (k : Int), ((0 : Int), ())))) := by
 unfold letEnd
 have hw : IntKind.wrap IntKind.i64 (b + (k : Int)) = b + (k : Int) := by
  have := hb.1; have := hb.2.1
  simp only [IntKind.wrap, IntKind.bits, IntKind.signed]
  simp
  omega
 have hp : 2 ^ k < 2 ^ 64 := Nat.pow_lt_pow_right (by decide) hk
 have hor : bits BinOp.or IntKind.u64 (t : Int) ((2 ^ k : Nat) : Int) = ((t ||| 2 ^ k : Nat) : Int) := bits_or_nat .u64 t (2 ^ k) ht hp (fun h => by cases h)
 rw [one_nat k hk, hw, hor]
 rfl
theorem letLow_eq (b : Int) (t x : Nat) (hb : baseOk b) (ht : t < 2 ^ 64) (h0 : x ≠ 0) (hx : x < 2 ^ 64) : ∃ k : Nat, k < 64 /\ x.testBit k = true /\ (letLow b (t : Int) (x : Int)).eval = some (b, (((t ||| 2 ^ k : Nat) : Int), (b + (k : Int), ((0 : Int), ())))) := by
 obtain ⟨k, h1, h2, h3⟩ := ctz_ok x h0 hx
 refine ⟨k, h2, h3, ?_⟩
 unfold letLow
 rw [h1]
 refine ev_g (decide_eq_true (by omega)) (ev_g (decide_eq_true (by omega)) (letEnd_eq b t k hb ht h2))
theorem let_ok (b w : Int) (t : Nat) (hb : baseOk b) (ht : t < 2 ^ 64) (hf : t ≠ 2 ^ 64 - 1) (hw : 0 <= w /\ w <= 65535) :
   ∃ k : Nat, k < 64 /\ t.testBit k = false /\ portsLet_fn (b, ((t : Int), (w, ()))) = some (b, (((t ||| 2 ^ k : Nat) : Int), (b + (k : Int), ((0 : Int), ())))) /\
     ((∃ j : Nat, j < 64 /\ t.testBit j = false /\ (b + (j : Int)) % 2 = w % 2) -> (b + (k : Int)) % 2 = w % 2) /\ (∀ j : Nat, j < 64 -> t.testBit j = false -> b + (j : Int) = w -> k = j) := by
 have hF : 2 ^ 64 - (t + 1) < 2 ^ 64 := by omega
 have hF0 : 2 ^ 64 - (t + 1) ≠ 0 := by omega
 have hbb := hb
 obtain ⟨hb1, hb2, hb3⟩ := hb
 have hkk : IntKind.wrap IntKind.i64 (w - b) = w - b := by
   simp only [IntKind.wrap, IntKind.bits, IntKind.signed]
   simp
   omega
 have tz : (∀ j : Nat, j < 64 -> t.testBit j = false -> b + (j : Int) ≠ w) -> ∃ k : Nat, k < 64 /\ t.testBit k = false /\ (letTz b (t : Int) w).eval = some (b, (((t ||| 2 ^ k : Nat) : Int), (b + (k : Int), ((0 : Int), ())))) /\
     ((∃ j : Nat, j < 64 /\ t.testBit j = false /\ (b + (j : Int)) % 2 = w % 2) -> (b + (k : Int)) % 2 = w % 2) /\ (∀ j : Nat, j < 64 -> t.testBit j = false -> b + (j : Int) = w -> k = j) := by
   intro hno
   obtain ⟨m1, m2⟩ := mk_nat w hw
   have main : ∀ (m : Nat) (p : Int), p = w % 2 -> m < 2 ^ 64 -> (∀ i : Nat, i < 64 -> (m.testBit i = true ↔ (i : Int) % 2 = p)) -> mkI w = (m : Int) -> ∃ k : Nat, k < 64 /\ t.testBit k = false /\ (letTz b (t : Int) w).eval = some (b, (((t ||| 2 ^ k : Nat) : Int), (b + (k : Int), ((0 : Int), ())))) /\
       ((∃ j : Nat, j < 64 /\ t.testBit j = false /\ (b + (j : Int)) % 2 = w % 2) -> (b + (k : Int)) % 2 = w % 2) /\ (∀ j : Nat, j < 64 -> t.testBit j = false -> b + (j : Int) = w -> k = j) := by
     intro m p hp hm hbit he
     have hand : bits BinOp.and IntKind.u64 (frI (t : Int)) (mkI w) = (((2 ^ 64 - (t + 1)) &&& m : Nat) : Int) := by
       rw [fr_nat t ht, he]; exact and64 _ _ hF hm
     have hle : (2 ^ 64 - (t + 1)) &&& m < 2 ^ 64 := Nat.lt_of_le_of_lt Nat.and_le_right hm
     by_cases hz : (2 ^ 64 - (t + 1)) &&& m = 0
     . obtain ⟨k, k1, k2, k3⟩ := letLow_eq b t _ hbb ht hF0 hF
       rw [fr_bit t ht k, decide_eq_true k1, Bool.true_and, Bool.not_eq_true'] at k2
       refine ⟨k, k1, k2, ?_, ?_, fun j j1 j2 j3 => absurd j3 (hno j j1 j2)⟩
       . unfold letTz
         refine ev_g (decide_eq_true m1) (ev_t (decide_eq_true (by rw [hand, hz]; rfl)) ?_)
         rw [fr_nat t ht]; exact k3
       . rintro ⟨j, j1, j2, j3⟩
         have hj : ((2 ^ 64 - (t + 1)) &&& m).testBit j = true := by
          rw [Nat.testBit_and, fr_bit t ht j, j2, decide_eq_true j1]
          simp only [Bool.not_false, Bool.and_self, Bool.true_and]
          exact (hbit j j1).2 (by omega)
         rw [hz, Nat.zero_testBit] at hj
         cases hj
     . obtain ⟨k, k1, k2, k3⟩ := letLow_eq b t _ hbb ht hz hle
       rw [Nat.testBit_and, fr_bit t ht k, decide_eq_true k1, Bool.true_and, Bool.and_eq_true, Bool.not_eq_true'] at k2
       have hpar := (hbit k k1).1 k2.2
       refine ⟨k, k1, k2.1, ?_, fun _ => by omega, fun j j1 j2 j3 => absurd j3 (hno j j1 j2)⟩
       unfold letTz
       refine ev_g (decide_eq_true m1) (ev_f (decide_eq_false (by rw [hand]; exact_mod_cast hz)) ?_)
       rw [hand]; exact k3
   rcases m2 with ⟨h1, h2⟩ | ⟨h1, h2⟩
   . refine main _ 0 h1.symm (by decide) (fun i hi => ?_) h2
     rw [(mask_bit ⟨i, hi⟩).1, decide_eq_true_eq]
     show i % 2 = 0 ↔ _
     omega
   . refine main _ 1 h1.symm (by decide) (fun i hi => ?_) h2
     rw [(mask_bit ⟨i, hi⟩).2, decide_eq_true_eq]
     show i % 2 = 1 ↔ _
     omega
 have full : decide ((t : Int) = (18446744073709551615 : Int)) = false := decide_eq_false (by omega)
 have head : ∀ r, (letMain b (t : Int) w).eval = r -> portsLet_fn (b, ((t : Int), (w, ()))) = r := by
   intro r hr
   rw [portsLet_short]
   exact ev_opt (check_ok _ hbb) (ev_f rfl (ev_f (decide_eq_false (by omega)) (ev_f (decide_eq_false (by omega)) (ev_f full (ev_f rfl hr)))))
 by_cases c1 : w - b < 0
 . obtain ⟨k, k1, k2, k3, k4, k5⟩ := tz (fun j j1 j2 j3 => by omega)
   refine ⟨k, k1, k2, head _ ?_, k4, k5⟩
   unfold letMain
   rw [hkk]
   exact ev_t (decide_eq_true c1) k3
 by_cases c2 : 63 < w - b
 . obtain ⟨k, k1, k2, k3, k4, k5⟩ := tz (fun j j1 j2 j3 => by omega)
   refine ⟨k, k1, k2, head _ ?_, k4, k5⟩
   unfold letMain
   rw [hkk]
   exact ev_f (decide_eq_false c1) (ev_t (decide_eq_true c2) k3)
 obtain ⟨q, hq⟩ := Int.eq_ofNat_of_zero_le (show 0 <= w - b by omega)
 have hq64 : q < 64 := by omega
 have hbq := bit_eq (2 ^ 64 - (t + 1)) q hF hq64
 rw [fr_bit t ht q, decide_eq_true hq64, Bool.true_and, Bool.not_not] at hbq
 cases hc : t.testBit q with
 | true =>
   rw [hc] at hbq
   obtain ⟨k, k1, k2, k3, k4, k5⟩ := tz (fun j j1 j2 j3 => by
     have : j = q := by omega
     subst this; rw [hc] at j2; cases j2)
   refine ⟨k, k1, k2, head _ ?_, k4, k5⟩
   unfold letMain
   rw [hkk, hq, fr_nat t ht]
   exact ev_f (decide_eq_false (by omega)) (ev_f (decide_eq_false (by omega)) (ev_g (decide_eq_true (by omega)) (ev_t hbq k3)))
 | false =>
   rw [hc] at hbq
   refine ⟨q, hq64, hc, head _ ?_, fun _ => by omega, fun j j1 j2 j3 => by omega⟩
   unfold letMain
   rw [hkk, hq, fr_nat t ht]
   exact ev_f (decide_eq_false (by omega)) (ev_f (decide_eq_false (by omega)) (ev_g (decide_eq_true (by omega)) (ev_f hbq (ev_g (decide_eq_true (by omega)) (letEnd_eq b t q hbb ht hq64)))))
theorem let_full (b w : Int) (hb : baseOk b) (hw : 0 <= w /\ w <= 65535) : portsLet_fn (b, ((18446744073709551615 : Int), (w, ()))) = some ((0 : Int), ((0 : Int), ((0 : Int), ((6 : Int), ())))) := by
 rw [portsLet_short]
 exact ev_opt (check_ok _ hb) (ev_f rfl (ev_f (decide_eq_false (by omega)) (ev_f (decide_eq_false (by omega)) (ev_t rfl (ev_t rfl rfl)))))
theorem end_ok (b : Int) (t k : Nat) (hb : baseOk b) (ht : t < 2 ^ 64) (hk : k < 64) (hbit : t.testBit k = true) : portsEnd_fn (b, ((t : Int), (b + (k : Int), ()))) = some (b, (((t ^^^ 2 ^ k : Nat) : Int), ((0 : Int), ()))) := by
 have hb1 := hb.1
 have hb2 := hb.2.1
 have hw : IntKind.wrap IntKind.i64 (b + (63 : Int)) = b + 63 := by
   simp only [IntKind.wrap, IntKind.bits, IntKind.signed]
   simp
   omega
 have hw2 : IntKind.wrap IntKind.i64 (b + (k : Int) - b) = (k : Int) := by
   rw [show b + (k : Int) - b = (k : Int) by omega]
   simp only [IntKind.wrap, IntKind.bits, IntKind.signed]
   simp
   omega
 have hp : 2 ^ k < 2 ^ 64 := Nat.pow_lt_pow_right (by decide) hk
 have hx : bits BinOp.xor IntKind.u64 (t : Int) ((2 ^ k : Nat) : Int) = ((t ^^^ 2 ^ k : Nat) : Int) := bits_xor_nat .u64 t (2 ^ k) ht hp (fun h => by cases h)
 have h1 := one_nat k hk
 unfold oneI at h1
 show (portsEnd_tree _).eval = _
 unfold portsEnd_tree
 simp only [hw, hw2]
 refine ev_opt (check_ok _ hb) (ev_f rfl (ev_f (decide_eq_false (by omega)) (ev_f (decide_eq_false (by omega)) (ev_g (decide_eq_true (by omega)) (ev_f ?_ (ev_g (decide_eq_true (by omega)) ?_))))))
 . rw [bit_eq t k ht hk, hbit]; rfl
 . rw [h1, hx]; rfl
theorem end_no (b : Int) (t : Nat) (q : Int) (ht : t < 2 ^ 64) (h : ¬ (baseOk b /\ ∃ k : Nat, k < 64 /\ t.testBit k = true /\ q = b + (k : Int))) : ∃ e : Int, e ≠ 0 /\ portsEnd_fn (b, ((t : Int), (q, ()))) = some ((0 : Int), ((0 : Int), (e, ()))) := by
 by_cases hb : baseOk b
 case neg => exact ⟨1, by decide, ev_opt (check_no _ hb) (ev_t rfl rfl)⟩
 have hb1 := hb.1
 have hb2 := hb.2.1
 have hw : IntKind.wrap IntKind.i64 (b + (63 : Int)) = b + 63 := by
  simp only [IntKind.wrap, IntKind.bits, IntKind.signed]
  simp
  omega
 refine ⟨7, by decide, ?_⟩
 show (portsEnd_tree _).eval = _
 unfold portsEnd_tree
 simp only [hw]
 refine ev_opt (check_ok _ hb) (ev_f rfl (ev_ite (fun _ => rfl) fun c1 => ev_ite (fun _ => rfl) fun c2 => ?_))
 have c1 := of_decide_eq_false c1
 have c2 := of_decide_eq_false c2
 obtain ⟨k, hk⟩ := Int.eq_ofNat_of_zero_le (show 0 <= q - b by omega)
 have hk64 : k < 64 := by omega
 have hw2 : IntKind.wrap IntKind.i64 (q - b) = (k : Int) := by
  rw [hk]
  simp only [IntKind.wrap, IntKind.bits, IntKind.signed]
  simp
  omega
 simp only [hw2]
 refine ev_g (decide_eq_true (by omega)) (ev_t ?_ rfl)
 rw [bit_eq t k ht hk64]
 cases hc : t.testBit k with
 | false => rfl
 | true => exact absurd ⟨hb, k, hk64, hc, by omega⟩ h
theorem or_bit (t k i : Nat) : (t ||| 2 ^ k).testBit i = (t.testBit i || decide (k = i)) := by rw [Nat.testBit_or, Nat.testBit_two_pow]
theorem xor_bit (t k i : Nat) : (t ^^^ 2 ^ k).testBit i = (t.testBit i ^^ decide (k = i)) := by rw [Nat.testBit_xor, Nat.testBit_two_pow]
theorem or_lt (t k : Nat) (ht : t < 2 ^ 64) (hk : k < 64) : t ||| 2 ^ k < 2 ^ 64 := Nat.or_lt_two_pow ht (Nat.pow_lt_pow_right (by decide) hk)
theorem xor_lt (t k : Nat) (ht : t < 2 ^ 64) (hk : k < 64) : t ^^^ 2 ^ k < 2 ^ 64 := Nat.xor_lt_two_pow ht (Nat.pow_lt_pow_right (by decide) hk)
theorem or_xor (t k : Nat) (h : t.testBit k = false) : (t ||| 2 ^ k) ^^^ 2 ^ k = t := by
 apply Nat.eq_of_testBit_eq
 intro i
 rw [xor_bit, or_bit]
 by_cases hi : k = i
 . subst hi; rw [h]; simp
 . rw [decide_eq_false hi]; simp
end Go.Proofs.YthkhikdglmaiaaaGreatDoor.X
