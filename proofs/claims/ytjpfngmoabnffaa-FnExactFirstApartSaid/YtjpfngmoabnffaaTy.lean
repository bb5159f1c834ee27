/-
  Closed facts on the types and the functions of the program.
-/
import Derived.Test.YtjpfngmoabnffaaVcOwn
import Derived.Test.YtjpfngmoabnffaaProg
namespace Go.Proofs.Ytjpfngmoabnffaa
open Go Go.Vc Go.Proofs
theorem mo : Try.prog.follows .mixedOrders = true := by kernel_rfl
theorem sz1 : Sz Try.prog 1 1 := by unfold Sz; kernel_rfl
theorem pl1 : plainT Try.prog 1 = true := by kernel_rfl
theorem sz2 : Sz Try.prog 2 1 := by unfold Sz; kernel_rfl
theorem pl2 : plainT Try.prog 2 = true := by kernel_rfl
theorem inf2 : Inf Try.prog 2 1 8 (.int .i64 0) := by unfold Inf; kernel_rfl
theorem zr2 : Zr Try.prog 2 (.int .i64 0) := by unfold Zr; kernel_rfl
theorem sz3 : Sz Try.prog 3 1 := by unfold Sz; kernel_rfl
theorem pl3 : plainT Try.prog 3 = true := by kernel_rfl
theorem inf3 : Inf Try.prog 3 1 8 (.int .i64 0) := by unfold Inf; kernel_rfl
theorem zr3 : Zr Try.prog 3 (.int .i64 0) := by unfold Zr; kernel_rfl
theorem sz4 : Sz Try.prog 4 1 := by unfold Sz; kernel_rfl
theorem pl4 : plainT Try.prog 4 = true := by kernel_rfl
theorem inf4 : Inf Try.prog 4 1 1 (.bool false) := by unfold Inf; kernel_rfl
theorem zr4 : Zr Try.prog 4 (.bool false) := by unfold Zr; kernel_rfl
theorem sz5 : Sz Try.prog 5 1 := by unfold Sz; kernel_rfl
theorem pl5 : plainT Try.prog 5 = true := by kernel_rfl
theorem inf5 : Inf Try.prog 5 1 1 (.int .u8 0) := by unfold Inf; kernel_rfl
theorem zr5 : Zr Try.prog 5 (.int .u8 0) := by unfold Zr; kernel_rfl
theorem sz6 : Sz Try.prog 6 1 := by unfold Sz; kernel_rfl
theorem pl6 : plainT Try.prog 6 = true := by kernel_rfl
theorem inf6 : Inf Try.prog 6 1 1 (.int .u8 0) := by unfold Inf; kernel_rfl
theorem zr6 : Zr Try.prog 6 (.int .u8 0) := by unfold Zr; kernel_rfl
theorem sz7 : Sz Try.prog 7 4 := by unfold Sz; kernel_rfl
theorem ag7 : aggT Try.prog 7 = true := by kernel_rfl
theorem inf7 : Inf Try.prog 7 4 24 (.agg #[.int .i64 0, .int .i64 0, .bool false, .int .u8 0]) := by unfold Inf; kernel_rfl
theorem zr7 : Zr Try.prog 7 (.agg #[.int .i64 0, .int .i64 0, .bool false, .int .u8 0]) := by unfold Zr; kernel_rfl
theorem sz8 : Sz Try.prog 8 4 := by unfold Sz; kernel_rfl
theorem ag8 : aggT Try.prog 8 = true := by kernel_rfl
theorem inf8 : Inf Try.prog 8 4 24 (.agg #[.int .i64 0, .int .i64 0, .bool false, .int .u8 0]) := by unfold Inf; kernel_rfl
theorem zr8 : Zr Try.prog 8 (.agg #[.int .i64 0, .int .i64 0, .bool false, .int .u8 0]) := by unfold Zr; kernel_rfl
theorem sz9 : Sz Try.prog 9 1 := by unfold Sz; kernel_rfl
theorem pl9 : plainT Try.prog 9 = true := by kernel_rfl
theorem sz10 : Sz Try.prog 10 1 := by unfold Sz; kernel_rfl
theorem pl10 : plainT Try.prog 10 = true := by kernel_rfl
theorem sz11 : Sz Try.prog 11 1 := by unfold Sz; kernel_rfl
theorem pl11 : plainT Try.prog 11 = true := by kernel_rfl
theorem sz12 : Sz Try.prog 12 1 := by unfold Sz; kernel_rfl
theorem pl12 : plainT Try.prog 12 = true := by kernel_rfl
theorem inf12 : Inf Try.prog 12 1 8 (.int .u64 0) := by unfold Inf; kernel_rfl
theorem zr12 : Zr Try.prog 12 (.int .u64 0) := by unfold Zr; kernel_rfl
theorem sz13 : Sz Try.prog 13 2 := by unfold Sz; kernel_rfl
theorem ag13 : aggT Try.prog 13 = true := by kernel_rfl
theorem sz14 : Sz Try.prog 14 2 := by unfold Sz; kernel_rfl
theorem ag14 : aggT Try.prog 14 = true := by kernel_rfl
theorem sz15 : Sz Try.prog 15 1 := by unfold Sz; kernel_rfl
theorem pl15 : plainT Try.prog 15 = true := by kernel_rfl
theorem inf15 : Inf Try.prog 15 1 8 (.pointer none) := by unfold Inf; kernel_rfl
theorem zr15 : Zr Try.prog 15 (.pointer none) := by unfold Zr; kernel_rfl
theorem sz16 : Sz Try.prog 16 1 := by unfold Sz; kernel_rfl
theorem pl16 : plainT Try.prog 16 = true := by kernel_rfl
theorem inf16 : Inf Try.prog 16 1 8 (.pointer none) := by unfold Inf; kernel_rfl
theorem zr16 : Zr Try.prog 16 (.pointer none) := by unfold Zr; kernel_rfl
theorem sz17 : Sz Try.prog 17 1 := by unfold Sz; kernel_rfl
theorem pl17 : plainT Try.prog 17 = true := by kernel_rfl
theorem inf17 : Inf Try.prog 17 1 8 (.pointer none) := by unfold Inf; kernel_rfl
theorem zr17 : Zr Try.prog 17 (.pointer none) := by unfold Zr; kernel_rfl
theorem sz18 : Sz Try.prog 18 1 := by unfold Sz; kernel_rfl
theorem ag18 : aggT Try.prog 18 = true := by kernel_rfl
theorem inf18 : Inf Try.prog 18 1 8 (.agg #[.pointer none]) := by unfold Inf; kernel_rfl
theorem zr18 : Zr Try.prog 18 (.agg #[.pointer none]) := by unfold Zr; kernel_rfl
theorem sz19 : Sz Try.prog 19 1 := by unfold Sz; kernel_rfl
theorem ag19 : aggT Try.prog 19 = true := by kernel_rfl
theorem inf19 : Inf Try.prog 19 1 8 (.agg #[.pointer none]) := by unfold Inf; kernel_rfl
theorem zr19 : Zr Try.prog 19 (.agg #[.pointer none]) := by unfold Zr; kernel_rfl
theorem sz21 : Sz Try.prog 21 1 := by unfold Sz; kernel_rfl
theorem pl21 : plainT Try.prog 21 = true := by kernel_rfl
theorem inf21 : Inf Try.prog 21 1 4 (.int .i32 0) := by unfold Inf; kernel_rfl
theorem zr21 : Zr Try.prog 21 (.int .i32 0) := by unfold Zr; kernel_rfl
theorem sz22 : Sz Try.prog 22 1 := by unfold Sz; kernel_rfl
theorem pl22 : plainT Try.prog 22 = true := by kernel_rfl
theorem inf22 : Inf Try.prog 22 1 24 (.slice none 0 0) := by unfold Inf; kernel_rfl
theorem zr22 : Zr Try.prog 22 (.slice none 0 0) := by unfold Zr; kernel_rfl
theorem sz23 : Sz Try.prog 23 2 := by unfold Sz; kernel_rfl
theorem ag23 : aggT Try.prog 23 = true := by kernel_rfl
theorem inf23 : Inf Try.prog 23 2 32 (.agg #[.int .i64 0, .slice none 0 0]) := by unfold Inf; kernel_rfl
theorem zr23 : Zr Try.prog 23 (.agg #[.int .i64 0, .slice none 0 0]) := by unfold Zr; kernel_rfl
theorem sz24 : Sz Try.prog 24 2 := by unfold Sz; kernel_rfl
theorem ag24 : aggT Try.prog 24 = true := by kernel_rfl
theorem inf24 : Inf Try.prog 24 2 32 (.agg #[.int .i64 0, .slice none 0 0]) := by unfold Inf; kernel_rfl
theorem zr24 : Zr Try.prog 24 (.agg #[.int .i64 0, .slice none 0 0]) := by unfold Zr; kernel_rfl
theorem sz25 : Sz Try.prog 25 1 := by unfold Sz; kernel_rfl
theorem pl25 : plainT Try.prog 25 = true := by kernel_rfl
theorem sz27 : Sz Try.prog 27 1 := by unfold Sz; kernel_rfl
theorem pl27 : plainT Try.prog 27 = true := by kernel_rfl
theorem sz28 : Sz Try.prog 28 1 := by unfold Sz; kernel_rfl
theorem pl28 : plainT Try.prog 28 = true := by kernel_rfl
theorem inf28 : Inf Try.prog 28 1 24 (.slice none 0 0) := by unfold Inf; kernel_rfl
theorem zr28 : Zr Try.prog 28 (.slice none 0 0) := by unfold Zr; kernel_rfl
theorem sz29 : Sz Try.prog 29 2 := by unfold Sz; kernel_rfl
theorem ag29 : aggT Try.prog 29 = true := by kernel_rfl
theorem inf29 : Inf Try.prog 29 2 32 (.agg #[.int .i64 0, .slice none 0 0]) := by unfold Inf; kernel_rfl
theorem zr29 : Zr Try.prog 29 (.agg #[.int .i64 0, .slice none 0 0]) := by unfold Zr; kernel_rfl
theorem sz30 : Sz Try.prog 30 2 := by unfold Sz; kernel_rfl
theorem ag30 : aggT Try.prog 30 = true := by kernel_rfl
theorem inf30 : Inf Try.prog 30 2 32 (.agg #[.int .i64 0, .slice none 0 0]) := by unfold Inf; kernel_rfl
theorem zr30 : Zr Try.prog 30 (.agg #[.int .i64 0, .slice none 0 0]) := by unfold Zr; kernel_rfl
theorem sz31 : Sz Try.prog 31 1 := by unfold Sz; kernel_rfl
theorem pl31 : plainT Try.prog 31 = true := by kernel_rfl
theorem sz32 : Sz Try.prog 32 1 := by unfold Sz; kernel_rfl
theorem pl32 : plainT Try.prog 32 = true := by kernel_rfl
theorem sz33 : Sz Try.prog 33 1 := by unfold Sz; kernel_rfl
theorem pl33 : plainT Try.prog 33 = true := by kernel_rfl
theorem sz34 : Sz Try.prog 34 1 := by unfold Sz; kernel_rfl
theorem pl34 : plainT Try.prog 34 = true := by kernel_rfl
theorem inf34 : Inf Try.prog 34 1 24 (.slice none 0 0) := by unfold Inf; kernel_rfl
theorem zr34 : Zr Try.prog 34 (.slice none 0 0) := by unfold Zr; kernel_rfl
theorem sz36 : Sz Try.prog 36 1 := by unfold Sz; kernel_rfl
theorem pl36 : plainT Try.prog 36 = true := by kernel_rfl
theorem sz37 : Sz Try.prog 37 1 := by unfold Sz; kernel_rfl
theorem pl37 : plainT Try.prog 37 = true := by kernel_rfl
theorem sz38 : Sz Try.prog 38 1 := by unfold Sz; kernel_rfl
theorem pl38 : plainT Try.prog 38 = true := by kernel_rfl
theorem sz39 : Sz Try.prog 39 1 := by unfold Sz; kernel_rfl
theorem pl39 : plainT Try.prog 39 = true := by kernel_rfl
theorem sz40 : Sz Try.prog 40 1 := by unfold Sz; kernel_rfl
theorem pl40 : plainT Try.prog 40 = true := by kernel_rfl
theorem sz42 : Sz Try.prog 42 1 := by unfold Sz; kernel_rfl
theorem pl42 : plainT Try.prog 42 = true := by kernel_rfl
theorem sz43 : Sz Try.prog 43 1 := by unfold Sz; kernel_rfl
theorem pl43 : plainT Try.prog 43 = true := by kernel_rfl
theorem inf43 : Inf Try.prog 43 1 24 (.slice none 0 0) := by unfold Inf; kernel_rfl
theorem zr43 : Zr Try.prog 43 (.slice none 0 0) := by unfold Zr; kernel_rfl
theorem sz45 : Sz Try.prog 45 1 := by unfold Sz; kernel_rfl
theorem pl45 : plainT Try.prog 45 = true := by kernel_rfl
theorem sz46 : Sz Try.prog 46 1 := by unfold Sz; kernel_rfl
theorem pl46 : plainT Try.prog 46 = true := by kernel_rfl
theorem sz47 : Sz Try.prog 47 1 := by unfold Sz; kernel_rfl
theorem pl47 : plainT Try.prog 47 = true := by kernel_rfl
theorem sz48 : Sz Try.prog 48 1 := by unfold Sz; kernel_rfl
theorem pl48 : plainT Try.prog 48 = true := by kernel_rfl
theorem sz49 : Sz Try.prog 49 3 := by unfold Sz; kernel_rfl
theorem ag49 : aggT Try.prog 49 = true := by kernel_rfl
theorem inf49 : Inf Try.prog 49 3 56 (.agg #[.int .i64 0, .slice none 0 0, .slice none 0 0]) := by unfold Inf; kernel_rfl
theorem zr49 : Zr Try.prog 49 (.agg #[.int .i64 0, .slice none 0 0, .slice none 0 0]) := by unfold Zr; kernel_rfl
theorem sz50 : Sz Try.prog 50 3 := by unfold Sz; kernel_rfl
theorem ag50 : aggT Try.prog 50 = true := by kernel_rfl
theorem inf50 : Inf Try.prog 50 3 56 (.agg #[.int .i64 0, .slice none 0 0, .slice none 0 0]) := by unfold Inf; kernel_rfl
theorem zr50 : Zr Try.prog 50 (.agg #[.int .i64 0, .slice none 0 0, .slice none 0 0]) := by unfold Zr; kernel_rfl
theorem sz51 : Sz Try.prog 51 1 := by unfold Sz; kernel_rfl
theorem pl51 : plainT Try.prog 51 = true := by kernel_rfl
theorem sz52 : Sz Try.prog 52 1 := by unfold Sz; kernel_rfl
theorem pl52 : plainT Try.prog 52 = true := by kernel_rfl
theorem sz53 : Sz Try.prog 53 3 := by unfold Sz; kernel_rfl
theorem ag53 : aggT Try.prog 53 = true := by kernel_rfl
theorem inf53 : Inf Try.prog 53 3 56 (.agg #[.int .i64 0, .slice none 0 0, .slice none 0 0]) := by unfold Inf; kernel_rfl
theorem zr53 : Zr Try.prog 53 (.agg #[.int .i64 0, .slice none 0 0, .slice none 0 0]) := by unfold Zr; kernel_rfl
theorem sz54 : Sz Try.prog 54 3 := by unfold Sz; kernel_rfl
theorem ag54 : aggT Try.prog 54 = true := by kernel_rfl
theorem inf54 : Inf Try.prog 54 3 56 (.agg #[.int .i64 0, .slice none 0 0, .slice none 0 0]) := by unfold Inf; kernel_rfl
theorem zr54 : Zr Try.prog 54 (.agg #[.int .i64 0, .slice none 0 0, .slice none 0 0]) := by unfold Zr; kernel_rfl
theorem sz55 : Sz Try.prog 55 1 := by unfold Sz; kernel_rfl
theorem pl55 : plainT Try.prog 55 = true := by kernel_rfl
theorem sz56 : Sz Try.prog 56 1 := by unfold Sz; kernel_rfl
theorem pl56 : plainT Try.prog 56 = true := by kernel_rfl
theorem sz57 : Sz Try.prog 57 1 := by unfold Sz; kernel_rfl
theorem pl57 : plainT Try.prog 57 = true := by kernel_rfl
theorem sz58 : Sz Try.prog 58 1 := by unfold Sz; kernel_rfl
theorem pl58 : plainT Try.prog 58 = true := by kernel_rfl
theorem sz60 : Sz Try.prog 60 1 := by unfold Sz; kernel_rfl
theorem pl60 : plainT Try.prog 60 = true := by kernel_rfl
theorem sz61 : Sz Try.prog 61 1 := by unfold Sz; kernel_rfl
theorem pl61 : plainT Try.prog 61 = true := by kernel_rfl
theorem sz62 : Sz Try.prog 62 1 := by unfold Sz; kernel_rfl
theorem pl62 : plainT Try.prog 62 = true := by kernel_rfl
theorem sz63 : Sz Try.prog 63 1 := by unfold Sz; kernel_rfl
theorem pl63 : plainT Try.prog 63 = true := by kernel_rfl
theorem sz64 : Sz Try.prog 64 1 := by unfold Sz; kernel_rfl
theorem pl64 : plainT Try.prog 64 = true := by kernel_rfl
theorem inf64 : Inf Try.prog 64 1 24 (.slice none 0 0) := by unfold Inf; kernel_rfl
theorem zr64 : Zr Try.prog 64 (.slice none 0 0) := by unfold Zr; kernel_rfl
theorem sz66 : Sz Try.prog 66 1 := by unfold Sz; kernel_rfl
theorem pl66 : plainT Try.prog 66 = true := by kernel_rfl
theorem sz67 : Sz Try.prog 67 1 := by unfold Sz; kernel_rfl
theorem pl67 : plainT Try.prog 67 = true := by kernel_rfl
theorem sz68 : Sz Try.prog 68 1 := by unfold Sz; kernel_rfl
theorem pl68 : plainT Try.prog 68 = true := by kernel_rfl
theorem sz69 : Sz Try.prog 69 1 := by unfold Sz; kernel_rfl
theorem pl69 : plainT Try.prog 69 = true := by kernel_rfl
theorem sz70 : Sz Try.prog 70 1 := by unfold Sz; kernel_rfl
theorem pl70 : plainT Try.prog 70 = true := by kernel_rfl
theorem inf70 : Inf Try.prog 70 1 24 (.slice none 0 0) := by unfold Inf; kernel_rfl
theorem zr70 : Zr Try.prog 70 (.slice none 0 0) := by unfold Zr; kernel_rfl
theorem sz71 : Sz Try.prog 71 1 := by unfold Sz; kernel_rfl
theorem pl71 : plainT Try.prog 71 = true := by kernel_rfl
theorem sz72 : Sz Try.prog 72 1 := by unfold Sz; kernel_rfl
theorem pl72 : plainT Try.prog 72 = true := by kernel_rfl
theorem sz73 : Sz Try.prog 73 1 := by unfold Sz; kernel_rfl
theorem pl73 : plainT Try.prog 73 = true := by kernel_rfl
theorem sz74 : Sz Try.prog 74 3 := by unfold Sz; kernel_rfl
theorem ag74 : aggT Try.prog 74 = true := by kernel_rfl
theorem inf74 : Inf Try.prog 74 3 24 (.agg #[.int .i64 0, .int .i64 0, .int .i64 0]) := by unfold Inf; kernel_rfl
theorem zr74 : Zr Try.prog 74 (.agg #[.int .i64 0, .int .i64 0, .int .i64 0]) := by unfold Zr; kernel_rfl
theorem sz75 : Sz Try.prog 75 3 := by unfold Sz; kernel_rfl
theorem ag75 : aggT Try.prog 75 = true := by kernel_rfl
theorem inf75 : Inf Try.prog 75 3 24 (.agg #[.int .i64 0, .int .i64 0, .int .i64 0]) := by unfold Inf; kernel_rfl
theorem zr75 : Zr Try.prog 75 (.agg #[.int .i64 0, .int .i64 0, .int .i64 0]) := by unfold Zr; kernel_rfl
theorem sz76 : Sz Try.prog 76 1 := by unfold Sz; kernel_rfl
theorem pl76 : plainT Try.prog 76 = true := by kernel_rfl
theorem sz77 : Sz Try.prog 77 1 := by unfold Sz; kernel_rfl
theorem pl77 : plainT Try.prog 77 = true := by kernel_rfl
theorem sz78 : Sz Try.prog 78 1 := by unfold Sz; kernel_rfl
theorem pl78 : plainT Try.prog 78 = true := by kernel_rfl
theorem sz79 : Sz Try.prog 79 1 := by unfold Sz; kernel_rfl
theorem pl79 : plainT Try.prog 79 = true := by kernel_rfl
theorem sz80 : Sz Try.prog 80 1 := by unfold Sz; kernel_rfl
theorem pl80 : plainT Try.prog 80 = true := by kernel_rfl
theorem sz81 : Sz Try.prog 81 1 := by unfold Sz; kernel_rfl
theorem pl81 : plainT Try.prog 81 = true := by kernel_rfl
theorem sz82 : Sz Try.prog 82 1 := by unfold Sz; kernel_rfl
theorem pl82 : plainT Try.prog 82 = true := by kernel_rfl
theorem sz83 : Sz Try.prog 83 1 := by unfold Sz; kernel_rfl
theorem pl83 : plainT Try.prog 83 = true := by kernel_rfl
theorem sz84 : Sz Try.prog 84 1 := by unfold Sz; kernel_rfl
theorem pl84 : plainT Try.prog 84 = true := by kernel_rfl
theorem sz85 : Sz Try.prog 85 1 := by unfold Sz; kernel_rfl
theorem pl85 : plainT Try.prog 85 = true := by kernel_rfl
theorem sz86 : Sz Try.prog 86 1 := by unfold Sz; kernel_rfl
theorem pl86 : plainT Try.prog 86 = true := by kernel_rfl
theorem sz87 : Sz Try.prog 87 1 := by unfold Sz; kernel_rfl
theorem pl87 : plainT Try.prog 87 = true := by kernel_rfl
theorem sz88 : Sz Try.prog 88 1 := by unfold Sz; kernel_rfl
theorem pl88 : plainT Try.prog 88 = true := by kernel_rfl
theorem inf88 : Inf Try.prog 88 1 24 (.slice none 0 0) := by unfold Inf; kernel_rfl
theorem zr88 : Zr Try.prog 88 (.slice none 0 0) := by unfold Zr; kernel_rfl
theorem sz89 : Sz Try.prog 89 1 := by unfold Sz; kernel_rfl
theorem pl89 : plainT Try.prog 89 = true := by kernel_rfl
theorem inf89 : Inf Try.prog 89 1 24 (.slice none 0 0) := by unfold Inf; kernel_rfl
theorem zr89 : Zr Try.prog 89 (.slice none 0 0) := by unfold Zr; kernel_rfl
theorem sz90 : Sz Try.prog 90 6 := by unfold Sz; kernel_rfl
theorem ag90 : aggT Try.prog 90 = true := by kernel_rfl
theorem inf90 : Inf Try.prog 90 6 80 (.agg #[.int .i64 0, .slice none 0 0, .int .i64 0, .int .i64 0, .bool false, .slice none 0 0]) := by unfold Inf; kernel_rfl
theorem zr90 : Zr Try.prog 90 (.agg #[.int .i64 0, .slice none 0 0, .int .i64 0, .int .i64 0, .bool false, .slice none 0 0]) := by unfold Zr; kernel_rfl
theorem sz91 : Sz Try.prog 91 6 := by unfold Sz; kernel_rfl
theorem ag91 : aggT Try.prog 91 = true := by kernel_rfl
theorem inf91 : Inf Try.prog 91 6 80 (.agg #[.int .i64 0, .slice none 0 0, .int .i64 0, .int .i64 0, .bool false, .slice none 0 0]) := by unfold Inf; kernel_rfl
theorem zr91 : Zr Try.prog 91 (.agg #[.int .i64 0, .slice none 0 0, .int .i64 0, .int .i64 0, .bool false, .slice none 0 0]) := by unfold Zr; kernel_rfl
theorem sz92 : Sz Try.prog 92 1 := by unfold Sz; kernel_rfl
theorem pl92 : plainT Try.prog 92 = true := by kernel_rfl
theorem inf92 : Inf Try.prog 92 1 8 (.pointer none) := by unfold Inf; kernel_rfl
theorem zr92 : Zr Try.prog 92 (.pointer none) := by unfold Zr; kernel_rfl
theorem sz93 : Sz Try.prog 93 1 := by unfold Sz; kernel_rfl
theorem pl93 : plainT Try.prog 93 = true := by kernel_rfl
theorem sz94 : Sz Try.prog 94 1 := by unfold Sz; kernel_rfl
theorem pl94 : plainT Try.prog 94 = true := by kernel_rfl
theorem sz95 : Sz Try.prog 95 1 := by unfold Sz; kernel_rfl
theorem pl95 : plainT Try.prog 95 = true := by kernel_rfl
theorem inf95 : Inf Try.prog 95 1 24 (.slice none 0 0) := by unfold Inf; kernel_rfl
theorem zr95 : Zr Try.prog 95 (.slice none 0 0) := by unfold Zr; kernel_rfl
theorem sz96 : Sz Try.prog 96 1 := by unfold Sz; kernel_rfl
theorem pl96 : plainT Try.prog 96 = true := by kernel_rfl
theorem sz97 : Sz Try.prog 97 1 := by unfold Sz; kernel_rfl
theorem pl97 : plainT Try.prog 97 = true := by kernel_rfl
theorem inf97 : Inf Try.prog 97 1 8 (.int .u64 0) := by unfold Inf; kernel_rfl
theorem zr97 : Zr Try.prog 97 (.int .u64 0) := by unfold Zr; kernel_rfl
theorem sz98 : Sz Try.prog 98 1 := by unfold Sz; kernel_rfl
theorem pl98 : plainT Try.prog 98 = true := by kernel_rfl
theorem sz99 : Sz Try.prog 99 1 := by unfold Sz; kernel_rfl
theorem pl99 : plainT Try.prog 99 = true := by kernel_rfl
theorem sz100 : Sz Try.prog 100 1 := by unfold Sz; kernel_rfl
theorem pl100 : plainT Try.prog 100 = true := by kernel_rfl
theorem sz101 : Sz Try.prog 101 1 := by unfold Sz; kernel_rfl
theorem pl101 : plainT Try.prog 101 = true := by kernel_rfl
theorem inf101 : Inf Try.prog 101 1 8 (.int .u64 0) := by unfold Inf; kernel_rfl
theorem zr101 : Zr Try.prog 101 (.int .u64 0) := by unfold Zr; kernel_rfl
theorem sz102 : Sz Try.prog 102 1 := by unfold Sz; kernel_rfl
theorem pl102 : plainT Try.prog 102 = true := by kernel_rfl
theorem sz103 : Sz Try.prog 103 1 := by unfold Sz; kernel_rfl
theorem pl103 : plainT Try.prog 103 = true := by kernel_rfl
theorem sz104 : Sz Try.prog 104 1 := by unfold Sz; kernel_rfl
theorem pl104 : plainT Try.prog 104 = true := by kernel_rfl
theorem sz105 : Sz Try.prog 105 1 := by unfold Sz; kernel_rfl
theorem pl105 : plainT Try.prog 105 = true := by kernel_rfl
theorem sz106 : Sz Try.prog 106 1 := by unfold Sz; kernel_rfl
theorem pl106 : plainT Try.prog 106 = true := by kernel_rfl
theorem sz107 : Sz Try.prog 107 1 := by unfold Sz; kernel_rfl
theorem pl107 : plainT Try.prog 107 = true := by kernel_rfl
theorem sz108 : Sz Try.prog 108 1 := by unfold Sz; kernel_rfl
theorem pl108 : plainT Try.prog 108 = true := by kernel_rfl
theorem sz109 : Sz Try.prog 109 1 := by unfold Sz; kernel_rfl
theorem pl109 : plainT Try.prog 109 = true := by kernel_rfl
theorem sz110 : Sz Try.prog 110 1 := by unfold Sz; kernel_rfl
theorem pl110 : plainT Try.prog 110 = true := by kernel_rfl
theorem sz111 : Sz Try.prog 111 1 := by unfold Sz; kernel_rfl
theorem pl111 : plainT Try.prog 111 = true := by kernel_rfl
theorem sz112 : Sz Try.prog 112 1 := by unfold Sz; kernel_rfl
theorem pl112 : plainT Try.prog 112 = true := by kernel_rfl
theorem sz113 : Sz Try.prog 113 1 := by unfold Sz; kernel_rfl
theorem pl113 : plainT Try.prog 113 = true := by kernel_rfl
theorem sz114 : Sz Try.prog 114 1 := by unfold Sz; kernel_rfl
theorem pl114 : plainT Try.prog 114 = true := by kernel_rfl
theorem sz115 : Sz Try.prog 115 1 := by unfold Sz; kernel_rfl
theorem pl115 : plainT Try.prog 115 = true := by kernel_rfl
theorem inf115 : Inf Try.prog 115 1 8 (.int .u64 0) := by unfold Inf; kernel_rfl
theorem zr115 : Zr Try.prog 115 (.int .u64 0) := by unfold Zr; kernel_rfl
theorem sz116 : Sz Try.prog 116 1 := by unfold Sz; kernel_rfl
theorem pl116 : plainT Try.prog 116 = true := by kernel_rfl
theorem sz117 : Sz Try.prog 117 1 := by unfold Sz; kernel_rfl
theorem pl117 : plainT Try.prog 117 = true := by kernel_rfl
theorem sz118 : Sz Try.prog 118 1 := by unfold Sz; kernel_rfl
theorem pl118 : plainT Try.prog 118 = true := by kernel_rfl
theorem sz119 : Sz Try.prog 119 1 := by unfold Sz; kernel_rfl
theorem pl119 : plainT Try.prog 119 = true := by kernel_rfl
theorem inf119 : Inf Try.prog 119 1 8 (.pointer none) := by unfold Inf; kernel_rfl
theorem zr119 : Zr Try.prog 119 (.pointer none) := by unfold Zr; kernel_rfl
theorem sz120 : Sz Try.prog 120 1 := by unfold Sz; kernel_rfl
theorem pl120 : plainT Try.prog 120 = true := by kernel_rfl
theorem sz121 : Sz Try.prog 121 1 := by unfold Sz; kernel_rfl
theorem pl121 : plainT Try.prog 121 = true := by kernel_rfl
theorem sz122 : Sz Try.prog 122 1 := by unfold Sz; kernel_rfl
theorem pl122 : plainT Try.prog 122 = true := by kernel_rfl
theorem sz123 : Sz Try.prog 123 1 := by unfold Sz; kernel_rfl
theorem pl123 : plainT Try.prog 123 = true := by kernel_rfl
theorem sz124 : Sz Try.prog 124 1 := by unfold Sz; kernel_rfl
theorem pl124 : plainT Try.prog 124 = true := by kernel_rfl
theorem sz125 : Sz Try.prog 125 6 := by unfold Sz; kernel_rfl
theorem ag125 : aggT Try.prog 125 = true := by kernel_rfl
theorem inf125 : Inf Try.prog 125 6 112 (.agg #[.slice none 0 0, .slice none 0 0, .slice none 0 0, .int .i64 0, .int .i64 0, .slice none 0 0]) := by unfold Inf; kernel_rfl
theorem zr125 : Zr Try.prog 125 (.agg #[.slice none 0 0, .slice none 0 0, .slice none 0 0, .int .i64 0, .int .i64 0, .slice none 0 0]) := by unfold Zr; kernel_rfl
theorem sz126 : Sz Try.prog 126 6 := by unfold Sz; kernel_rfl
theorem ag126 : aggT Try.prog 126 = true := by kernel_rfl
theorem inf126 : Inf Try.prog 126 6 112 (.agg #[.slice none 0 0, .slice none 0 0, .slice none 0 0, .int .i64 0, .int .i64 0, .slice none 0 0]) := by unfold Inf; kernel_rfl
theorem zr126 : Zr Try.prog 126 (.agg #[.slice none 0 0, .slice none 0 0, .slice none 0 0, .int .i64 0, .int .i64 0, .slice none 0 0]) := by unfold Zr; kernel_rfl
theorem sz127 : Sz Try.prog 127 1 := by unfold Sz; kernel_rfl
theorem pl127 : plainT Try.prog 127 = true := by kernel_rfl
theorem inf127 : Inf Try.prog 127 1 8 (.pointer none) := by unfold Inf; kernel_rfl
theorem zr127 : Zr Try.prog 127 (.pointer none) := by unfold Zr; kernel_rfl
theorem sz128 : Sz Try.prog 128 1 := by unfold Sz; kernel_rfl
theorem pl128 : plainT Try.prog 128 = true := by kernel_rfl
theorem sz130 : Sz Try.prog 130 1 := by unfold Sz; kernel_rfl
theorem pl130 : plainT Try.prog 130 = true := by kernel_rfl
theorem sz131 : Sz Try.prog 131 1 := by unfold Sz; kernel_rfl
theorem pl131 : plainT Try.prog 131 = true := by kernel_rfl
theorem sz132 : Sz Try.prog 132 1 := by unfold Sz; kernel_rfl
theorem pl132 : plainT Try.prog 132 = true := by kernel_rfl
theorem sz133 : Sz Try.prog 133 1 := by unfold Sz; kernel_rfl
theorem pl133 : plainT Try.prog 133 = true := by kernel_rfl
theorem sz134 : Sz Try.prog 134 1 := by unfold Sz; kernel_rfl
theorem pl134 : plainT Try.prog 134 = true := by kernel_rfl
theorem sz135 : Sz Try.prog 135 1 := by unfold Sz; kernel_rfl
theorem pl135 : plainT Try.prog 135 = true := by kernel_rfl
theorem sz136 : Sz Try.prog 136 1 := by unfold Sz; kernel_rfl
theorem pl136 : plainT Try.prog 136 = true := by kernel_rfl
theorem sz137 : Sz Try.prog 137 1 := by unfold Sz; kernel_rfl
theorem pl137 : plainT Try.prog 137 = true := by kernel_rfl
theorem sz138 : Sz Try.prog 138 1 := by unfold Sz; kernel_rfl
theorem pl138 : plainT Try.prog 138 = true := by kernel_rfl
theorem sz139 : Sz Try.prog 139 1 := by unfold Sz; kernel_rfl
theorem pl139 : plainT Try.prog 139 = true := by kernel_rfl
theorem sz140 : Sz Try.prog 140 1 := by unfold Sz; kernel_rfl
theorem pl140 : plainT Try.prog 140 = true := by kernel_rfl
theorem sz141 : Sz Try.prog 141 1 := by unfold Sz; kernel_rfl
theorem pl141 : plainT Try.prog 141 = true := by kernel_rfl
theorem sz142 : Sz Try.prog 142 1 := by unfold Sz; kernel_rfl
theorem pl142 : plainT Try.prog 142 = true := by kernel_rfl
theorem sz143 : Sz Try.prog 143 1 := by unfold Sz; kernel_rfl
theorem pl143 : plainT Try.prog 143 = true := by kernel_rfl
theorem sz144 : Sz Try.prog 144 1 := by unfold Sz; kernel_rfl
theorem pl144 : plainT Try.prog 144 = true := by kernel_rfl
theorem sz145 : Sz Try.prog 145 1 := by unfold Sz; kernel_rfl
theorem pl145 : plainT Try.prog 145 = true := by kernel_rfl
theorem sz146 : Sz Try.prog 146 1 := by unfold Sz; kernel_rfl
theorem pl146 : plainT Try.prog 146 = true := by kernel_rfl
theorem sz147 : Sz Try.prog 147 1 := by unfold Sz; kernel_rfl
theorem pl147 : plainT Try.prog 147 = true := by kernel_rfl
theorem sz148 : Sz Try.prog 148 1 := by unfold Sz; kernel_rfl
theorem pl148 : plainT Try.prog 148 = true := by kernel_rfl
theorem sz149 : Sz Try.prog 149 1 := by unfold Sz; kernel_rfl
theorem pl149 : plainT Try.prog 149 = true := by kernel_rfl
theorem sz150 : Sz Try.prog 150 1 := by unfold Sz; kernel_rfl
theorem pl150 : plainT Try.prog 150 = true := by kernel_rfl
theorem sz151 : Sz Try.prog 151 1 := by unfold Sz; kernel_rfl
theorem pl151 : plainT Try.prog 151 = true := by kernel_rfl
theorem sz152 : Sz Try.prog 152 1 := by unfold Sz; kernel_rfl
theorem pl152 : plainT Try.prog 152 = true := by kernel_rfl
theorem inf152 : Inf Try.prog 152 1 4 (.int .u32 0) := by unfold Inf; kernel_rfl
theorem zr152 : Zr Try.prog 152 (.int .u32 0) := by unfold Zr; kernel_rfl
theorem sz153 : Sz Try.prog 153 1 := by unfold Sz; kernel_rfl
theorem pl153 : plainT Try.prog 153 = true := by kernel_rfl
theorem sz154 : Sz Try.prog 154 1 := by unfold Sz; kernel_rfl
theorem pl154 : plainT Try.prog 154 = true := by kernel_rfl
theorem sz155 : Sz Try.prog 155 1 := by unfold Sz; kernel_rfl
theorem pl155 : plainT Try.prog 155 = true := by kernel_rfl
theorem sz156 : Sz Try.prog 156 1 := by unfold Sz; kernel_rfl
theorem pl156 : plainT Try.prog 156 = true := by kernel_rfl
theorem sz157 : Sz Try.prog 157 1 := by unfold Sz; kernel_rfl
theorem pl157 : plainT Try.prog 157 = true := by kernel_rfl
theorem sz158 : Sz Try.prog 158 1 := by unfold Sz; kernel_rfl
theorem pl158 : plainT Try.prog 158 = true := by kernel_rfl
theorem sz159 : Sz Try.prog 159 1 := by unfold Sz; kernel_rfl
theorem pl159 : plainT Try.prog 159 = true := by kernel_rfl
theorem sz160 : Sz Try.prog 160 1 := by unfold Sz; kernel_rfl
theorem pl160 : plainT Try.prog 160 = true := by kernel_rfl
theorem sz161 : Sz Try.prog 161 1 := by unfold Sz; kernel_rfl
theorem pl161 : plainT Try.prog 161 = true := by kernel_rfl
theorem sz162 : Sz Try.prog 162 1 := by unfold Sz; kernel_rfl
theorem pl162 : plainT Try.prog 162 = true := by kernel_rfl
theorem sz163 : Sz Try.prog 163 1 := by unfold Sz; kernel_rfl
theorem pl163 : plainT Try.prog 163 = true := by kernel_rfl
theorem sz164 : Sz Try.prog 164 1 := by unfold Sz; kernel_rfl
theorem pl164 : plainT Try.prog 164 = true := by kernel_rfl
theorem sz165 : Sz Try.prog 165 1 := by unfold Sz; kernel_rfl
theorem pl165 : plainT Try.prog 165 = true := by kernel_rfl
theorem sz166 : Sz Try.prog 166 1 := by unfold Sz; kernel_rfl
theorem pl166 : plainT Try.prog 166 = true := by kernel_rfl
theorem sz167 : Sz Try.prog 167 1 := by unfold Sz; kernel_rfl
theorem pl167 : plainT Try.prog 167 = true := by kernel_rfl
theorem sz168 : Sz Try.prog 168 1 := by unfold Sz; kernel_rfl
theorem pl168 : plainT Try.prog 168 = true := by kernel_rfl
theorem sz169 : Sz Try.prog 169 1 := by unfold Sz; kernel_rfl
theorem pl169 : plainT Try.prog 169 = true := by kernel_rfl
theorem sz170 : Sz Try.prog 170 4 := by unfold Sz; kernel_rfl
theorem ag170 : aggT Try.prog 170 = true := by kernel_rfl
theorem inf170 : Inf Try.prog 170 4 32 (.agg #[.int .i64 0, .int .i64 0, .int .i64 0, .int .i64 0]) := by unfold Inf; kernel_rfl
theorem zr170 : Zr Try.prog 170 (.agg #[.int .i64 0, .int .i64 0, .int .i64 0, .int .i64 0]) := by unfold Zr; kernel_rfl
theorem sz171 : Sz Try.prog 171 1 := by unfold Sz; kernel_rfl
theorem pl171 : plainT Try.prog 171 = true := by kernel_rfl
theorem inf171 : Inf Try.prog 171 1 24 (.slice none 0 0) := by unfold Inf; kernel_rfl
theorem zr171 : Zr Try.prog 171 (.slice none 0 0) := by unfold Zr; kernel_rfl
theorem sz172 : Sz Try.prog 172 1 := by unfold Sz; kernel_rfl
theorem pl172 : plainT Try.prog 172 = true := by kernel_rfl
theorem sz173 : Sz Try.prog 173 1 := by unfold Sz; kernel_rfl
theorem pl173 : plainT Try.prog 173 = true := by kernel_rfl
theorem sz175 : Sz Try.prog 175 1 := by unfold Sz; kernel_rfl
theorem pl175 : plainT Try.prog 175 = true := by kernel_rfl
theorem sz176 : Sz Try.prog 176 15 := by unfold Sz; kernel_rfl
theorem ag176 : aggT Try.prog 176 = true := by kernel_rfl
theorem inf176 : Inf Try.prog 176 15 120 (.agg #[.int .i64 0, .int .i64 0, .int .i64 0, .int .i64 0, .int .i64 0, .int .i64 0, .int .i64 0, .int .i64 0, .int .i64 0, .int .i64 0, .int .i64 0, .int .i64 0, .int .i64 0, .int .i64 0, .int .i64 0]) := by unfold Inf; kernel_rfl
theorem zr176 : Zr Try.prog 176 (.agg #[.int .i64 0, .int .i64 0, .int .i64 0, .int .i64 0, .int .i64 0, .int .i64 0, .int .i64 0, .int .i64 0, .int .i64 0, .int .i64 0, .int .i64 0, .int .i64 0, .int .i64 0, .int .i64 0, .int .i64 0]) := by unfold Zr; kernel_rfl
theorem sz177 : Sz Try.prog 177 1 := by unfold Sz; kernel_rfl
theorem pl177 : plainT Try.prog 177 = true := by kernel_rfl
theorem sz178 : Sz Try.prog 178 1 := by unfold Sz; kernel_rfl
theorem pl178 : plainT Try.prog 178 = true := by kernel_rfl
theorem sz179 : Sz Try.prog 179 1 := by unfold Sz; kernel_rfl
theorem pl179 : plainT Try.prog 179 = true := by kernel_rfl
theorem inf179 : Inf Try.prog 179 1 24 (.slice none 0 0) := by unfold Inf; kernel_rfl
theorem zr179 : Zr Try.prog 179 (.slice none 0 0) := by unfold Zr; kernel_rfl
theorem sz180 : Sz Try.prog 180 2 := by unfold Sz; kernel_rfl
theorem ag180 : aggT Try.prog 180 = true := by kernel_rfl
theorem inf180 : Inf Try.prog 180 2 16 (.agg #[.int .u64 0, .int .u64 0]) := by unfold Inf; kernel_rfl
theorem zr180 : Zr Try.prog 180 (.agg #[.int .u64 0, .int .u64 0]) := by unfold Zr; kernel_rfl
theorem sz181 : Sz Try.prog 181 2 := by unfold Sz; kernel_rfl
theorem ag181 : aggT Try.prog 181 = true := by kernel_rfl
theorem inf181 : Inf Try.prog 181 2 16 (.agg #[.int .u64 0, .int .u64 0]) := by unfold Inf; kernel_rfl
theorem zr181 : Zr Try.prog 181 (.agg #[.int .u64 0, .int .u64 0]) := by unfold Zr; kernel_rfl
theorem sz182 : Sz Try.prog 182 1 := by unfold Sz; kernel_rfl
theorem pl182 : plainT Try.prog 182 = true := by kernel_rfl
theorem sz183 : Sz Try.prog 183 1 := by unfold Sz; kernel_rfl
theorem pl183 : plainT Try.prog 183 = true := by kernel_rfl
theorem sz184 : Sz Try.prog 184 1 := by unfold Sz; kernel_rfl
theorem pl184 : plainT Try.prog 184 = true := by kernel_rfl
theorem sz185 : Sz Try.prog 185 1 := by unfold Sz; kernel_rfl
theorem pl185 : plainT Try.prog 185 = true := by kernel_rfl
theorem sz186 : Sz Try.prog 186 1 := by unfold Sz; kernel_rfl
theorem pl186 : plainT Try.prog 186 = true := by kernel_rfl
theorem sz187 : Sz Try.prog 187 1 := by unfold Sz; kernel_rfl
theorem pl187 : plainT Try.prog 187 = true := by kernel_rfl
theorem inf187 : Inf Try.prog 187 1 8 (.pointer none) := by unfold Inf; kernel_rfl
theorem zr187 : Zr Try.prog 187 (.pointer none) := by unfold Zr; kernel_rfl
theorem sz188 : Sz Try.prog 188 4 := by unfold Sz; kernel_rfl
theorem ag188 : aggT Try.prog 188 = true := by kernel_rfl
theorem sz189 : Sz Try.prog 189 4 := by unfold Sz; kernel_rfl
theorem ag189 : aggT Try.prog 189 = true := by kernel_rfl
theorem sz190 : Sz Try.prog 190 1 := by unfold Sz; kernel_rfl
theorem pl190 : plainT Try.prog 190 = true := by kernel_rfl
theorem sz191 : Sz Try.prog 191 1 := by unfold Sz; kernel_rfl
theorem pl191 : plainT Try.prog 191 = true := by kernel_rfl
theorem sz192 : Sz Try.prog 192 1 := by unfold Sz; kernel_rfl
theorem pl192 : plainT Try.prog 192 = true := by kernel_rfl
theorem sz193 : Sz Try.prog 193 1 := by unfold Sz; kernel_rfl
theorem pl193 : plainT Try.prog 193 = true := by kernel_rfl
theorem sz194 : Sz Try.prog 194 1 := by unfold Sz; kernel_rfl
theorem pl194 : plainT Try.prog 194 = true := by kernel_rfl
theorem inf194 : Inf Try.prog 194 1 24 (.slice none 0 0) := by unfold Inf; kernel_rfl
theorem zr194 : Zr Try.prog 194 (.slice none 0 0) := by unfold Zr; kernel_rfl
theorem sz195 : Sz Try.prog 195 2 := by unfold Sz; kernel_rfl
theorem ag195 : aggT Try.prog 195 = true := by kernel_rfl
theorem inf195 : Inf Try.prog 195 2 16 (.agg #[.int .i64 0, .int .i64 0]) := by unfold Inf; kernel_rfl
theorem zr195 : Zr Try.prog 195 (.agg #[.int .i64 0, .int .i64 0]) := by unfold Zr; kernel_rfl
theorem sz196 : Sz Try.prog 196 1 := by unfold Sz; kernel_rfl
theorem pl196 : plainT Try.prog 196 = true := by kernel_rfl
theorem sz197 : Sz Try.prog 197 1 := by unfold Sz; kernel_rfl
theorem pl197 : plainT Try.prog 197 = true := by kernel_rfl
theorem sz198 : Sz Try.prog 198 1 := by unfold Sz; kernel_rfl
theorem pl198 : plainT Try.prog 198 = true := by kernel_rfl
theorem sz199 : Sz Try.prog 199 1 := by unfold Sz; kernel_rfl
theorem pl199 : plainT Try.prog 199 = true := by kernel_rfl
theorem sz200 : Sz Try.prog 200 1 := by unfold Sz; kernel_rfl
theorem pl200 : plainT Try.prog 200 = true := by kernel_rfl
theorem inf200 : Inf Try.prog 200 1 8 (.int .i64 0) := by unfold Inf; kernel_rfl
theorem zr200 : Zr Try.prog 200 (.int .i64 0) := by unfold Zr; kernel_rfl
theorem sz202 : Sz Try.prog 202 1 := by unfold Sz; kernel_rfl
theorem pl202 : plainT Try.prog 202 = true := by kernel_rfl
theorem sz203 : Sz Try.prog 203 1 := by unfold Sz; kernel_rfl
theorem pl203 : plainT Try.prog 203 = true := by kernel_rfl
theorem sz204 : Sz Try.prog 204 1 := by unfold Sz; kernel_rfl
theorem pl204 : plainT Try.prog 204 = true := by kernel_rfl
theorem sz206 : Sz Try.prog 206 1 := by unfold Sz; kernel_rfl
theorem pl206 : plainT Try.prog 206 = true := by kernel_rfl
theorem sz207 : Sz Try.prog 207 1 := by unfold Sz; kernel_rfl
theorem pl207 : plainT Try.prog 207 = true := by kernel_rfl
theorem sz208 : Sz Try.prog 208 1 := by unfold Sz; kernel_rfl
theorem pl208 : plainT Try.prog 208 = true := by kernel_rfl
theorem sz209 : Sz Try.prog 209 1 := by unfold Sz; kernel_rfl
theorem pl209 : plainT Try.prog 209 = true := by kernel_rfl
theorem sz211 : Sz Try.prog 211 1 := by unfold Sz; kernel_rfl
theorem pl211 : plainT Try.prog 211 = true := by kernel_rfl
theorem sz212 : Sz Try.prog 212 1 := by unfold Sz; kernel_rfl
theorem pl212 : plainT Try.prog 212 = true := by kernel_rfl
theorem sz213 : Sz Try.prog 213 1 := by unfold Sz; kernel_rfl
theorem pl213 : plainT Try.prog 213 = true := by kernel_rfl
theorem sz214 : Sz Try.prog 214 1 := by unfold Sz; kernel_rfl
theorem pl214 : plainT Try.prog 214 = true := by kernel_rfl
theorem sz215 : Sz Try.prog 215 1 := by unfold Sz; kernel_rfl
theorem pl215 : plainT Try.prog 215 = true := by kernel_rfl
theorem sz216 : Sz Try.prog 216 1 := by unfold Sz; kernel_rfl
theorem pl216 : plainT Try.prog 216 = true := by kernel_rfl
theorem sz217 : Sz Try.prog 217 1 := by unfold Sz; kernel_rfl
theorem pl217 : plainT Try.prog 217 = true := by kernel_rfl
theorem sz218 : Sz Try.prog 218 1 := by unfold Sz; kernel_rfl
theorem pl218 : plainT Try.prog 218 = true := by kernel_rfl
theorem sz219 : Sz Try.prog 219 1 := by unfold Sz; kernel_rfl
theorem pl219 : plainT Try.prog 219 = true := by kernel_rfl
theorem sz220 : Sz Try.prog 220 1 := by unfold Sz; kernel_rfl
theorem pl220 : plainT Try.prog 220 = true := by kernel_rfl
theorem sz221 : Sz Try.prog 221 225 := by unfold Sz; kernel_rfl
theorem ag221 : aggT Try.prog 221 = true := by kernel_rfl
theorem zr221 : Zr Try.prog 221 (.agg (List.replicate 225 (.int .i64 0)).toArray) := by unfold Zr; kernel_rfl
theorem sz222 : Sz Try.prog 222 225 := by unfold Sz; kernel_rfl
theorem ag222 : aggT Try.prog 222 = true := by kernel_rfl
theorem zr222 : Zr Try.prog 222 (.agg (List.replicate 225 (.int .i64 0)).toArray) := by unfold Zr; kernel_rfl
theorem sz223 : Sz Try.prog 223 1 := by unfold Sz; kernel_rfl
theorem pl223 : plainT Try.prog 223 = true := by kernel_rfl
theorem inf223 : Inf Try.prog 223 1 8 (.int .u64 0) := by unfold Inf; kernel_rfl
theorem zr223 : Zr Try.prog 223 (.int .u64 0) := by unfold Zr; kernel_rfl
theorem sz224 : Sz Try.prog 224 1 := by unfold Sz; kernel_rfl
theorem pl224 : plainT Try.prog 224 = true := by kernel_rfl
theorem sz225 : Sz Try.prog 225 1 := by unfold Sz; kernel_rfl
theorem pl225 : plainT Try.prog 225 = true := by kernel_rfl
theorem sz226 : Sz Try.prog 226 1 := by unfold Sz; kernel_rfl
theorem pl226 : plainT Try.prog 226 = true := by kernel_rfl
theorem sz227 : Sz Try.prog 227 1 := by unfold Sz; kernel_rfl
theorem pl227 : plainT Try.prog 227 = true := by kernel_rfl
theorem inf227 : Inf Try.prog 227 1 8 (.pointer none) := by unfold Inf; kernel_rfl
theorem zr227 : Zr Try.prog 227 (.pointer none) := by unfold Zr; kernel_rfl
theorem sz228 : Sz Try.prog 228 1 := by unfold Sz; kernel_rfl
theorem pl228 : plainT Try.prog 228 = true := by kernel_rfl
theorem sz229 : Sz Try.prog 229 1 := by unfold Sz; kernel_rfl
theorem pl229 : plainT Try.prog 229 = true := by kernel_rfl
theorem sz230 : Sz Try.prog 230 1 := by unfold Sz; kernel_rfl
theorem pl230 : plainT Try.prog 230 = true := by kernel_rfl
theorem sz231 : Sz Try.prog 231 1 := by unfold Sz; kernel_rfl
theorem pl231 : plainT Try.prog 231 = true := by kernel_rfl
theorem sz232 : Sz Try.prog 232 1 := by unfold Sz; kernel_rfl
theorem pl232 : plainT Try.prog 232 = true := by kernel_rfl
theorem inf232 : Inf Try.prog 232 1 8 (.pointer none) := by unfold Inf; kernel_rfl
theorem zr232 : Zr Try.prog 232 (.pointer none) := by unfold Zr; kernel_rfl
theorem sz234 : Sz Try.prog 234 1 := by unfold Sz; kernel_rfl
theorem pl234 : plainT Try.prog 234 = true := by kernel_rfl
theorem sz235 : Sz Try.prog 235 1 := by unfold Sz; kernel_rfl
theorem pl235 : plainT Try.prog 235 = true := by kernel_rfl
theorem sz236 : Sz Try.prog 236 1 := by unfold Sz; kernel_rfl
theorem pl236 : plainT Try.prog 236 = true := by kernel_rfl
theorem sz237 : Sz Try.prog 237 1 := by unfold Sz; kernel_rfl
theorem pl237 : plainT Try.prog 237 = true := by kernel_rfl
theorem sz238 : Sz Try.prog 238 1 := by unfold Sz; kernel_rfl
theorem pl238 : plainT Try.prog 238 = true := by kernel_rfl
theorem sz239 : Sz Try.prog 239 1 := by unfold Sz; kernel_rfl
theorem pl239 : plainT Try.prog 239 = true := by kernel_rfl
theorem sz240 : Sz Try.prog 240 1 := by unfold Sz; kernel_rfl
theorem pl240 : plainT Try.prog 240 = true := by kernel_rfl
theorem sz241 : Sz Try.prog 241 1 := by unfold Sz; kernel_rfl
theorem pl241 : plainT Try.prog 241 = true := by kernel_rfl
theorem sz242 : Sz Try.prog 242 1 := by unfold Sz; kernel_rfl
theorem pl242 : plainT Try.prog 242 = true := by kernel_rfl
theorem sz243 : Sz Try.prog 243 1 := by unfold Sz; kernel_rfl
theorem pl243 : plainT Try.prog 243 = true := by kernel_rfl
theorem sz244 : Sz Try.prog 244 1 := by unfold Sz; kernel_rfl
theorem pl244 : plainT Try.prog 244 = true := by kernel_rfl
theorem sz245 : Sz Try.prog 245 4 := by unfold Sz; kernel_rfl
theorem ag245 : aggT Try.prog 245 = true := by kernel_rfl
theorem sz246 : Sz Try.prog 246 4 := by unfold Sz; kernel_rfl
theorem ag246 : aggT Try.prog 246 = true := by kernel_rfl
theorem sz247 : Sz Try.prog 247 0 := by unfold Sz; kernel_rfl
theorem ag247 : aggT Try.prog 247 = true := by kernel_rfl
theorem inf247 : Inf Try.prog 247 0 0 (.agg #[]) := by unfold Inf; kernel_rfl
theorem zr247 : Zr Try.prog 247 (.agg #[]) := by unfold Zr; kernel_rfl
theorem sz248 : Sz Try.prog 248 0 := by unfold Sz; kernel_rfl
theorem ag248 : aggT Try.prog 248 = true := by kernel_rfl
theorem inf248 : Inf Try.prog 248 0 0 (.agg #[]) := by unfold Inf; kernel_rfl
theorem zr248 : Zr Try.prog 248 (.agg #[]) := by unfold Zr; kernel_rfl
theorem sz249 : Sz Try.prog 249 0 := by unfold Sz; kernel_rfl
theorem ag249 : aggT Try.prog 249 = true := by kernel_rfl
theorem inf249 : Inf Try.prog 249 0 0 (.agg #[]) := by unfold Inf; kernel_rfl
theorem zr249 : Zr Try.prog 249 (.agg #[]) := by unfold Zr; kernel_rfl
theorem sz250 : Sz Try.prog 250 1 := by unfold Sz; kernel_rfl
theorem pl250 : plainT Try.prog 250 = true := by kernel_rfl
theorem sz251 : Sz Try.prog 251 1 := by unfold Sz; kernel_rfl
theorem pl251 : plainT Try.prog 251 = true := by kernel_rfl
theorem inf251 : Inf Try.prog 251 1 1 (.int .u8 0) := by unfold Inf; kernel_rfl
theorem zr251 : Zr Try.prog 251 (.int .u8 0) := by unfold Zr; kernel_rfl
theorem sz252 : Sz Try.prog 252 1 := by unfold Sz; kernel_rfl
theorem pl252 : plainT Try.prog 252 = true := by kernel_rfl
theorem inf252 : Inf Try.prog 252 1 1 (.int .u8 0) := by unfold Inf; kernel_rfl
theorem zr252 : Zr Try.prog 252 (.int .u8 0) := by unfold Zr; kernel_rfl
theorem sz253 : Sz Try.prog 253 1 := by unfold Sz; kernel_rfl
theorem pl253 : plainT Try.prog 253 = true := by kernel_rfl
theorem sz254 : Sz Try.prog 254 1 := by unfold Sz; kernel_rfl
theorem pl254 : plainT Try.prog 254 = true := by kernel_rfl
theorem inf254 : Inf Try.prog 254 1 8 (.pointer none) := by unfold Inf; kernel_rfl
theorem zr254 : Zr Try.prog 254 (.pointer none) := by unfold Zr; kernel_rfl
theorem sz255 : Sz Try.prog 255 1 := by unfold Sz; kernel_rfl
theorem pl255 : plainT Try.prog 255 = true := by kernel_rfl
theorem inf255 : Inf Try.prog 255 1 4 (.int .i32 0) := by unfold Inf; kernel_rfl
theorem zr255 : Zr Try.prog 255 (.int .i32 0) := by unfold Zr; kernel_rfl
theorem sz256 : Sz Try.prog 256 1 := by unfold Sz; kernel_rfl
theorem pl256 : plainT Try.prog 256 = true := by kernel_rfl
theorem inf256 : Inf Try.prog 256 1 4 (.int .i32 0) := by unfold Inf; kernel_rfl
theorem zr256 : Zr Try.prog 256 (.int .i32 0) := by unfold Zr; kernel_rfl
theorem sz257 : Sz Try.prog 257 11 := by unfold Sz; kernel_rfl
theorem ag257 : aggT Try.prog 257 = true := by kernel_rfl
theorem sz258 : Sz Try.prog 258 11 := by unfold Sz; kernel_rfl
theorem ag258 : aggT Try.prog 258 = true := by kernel_rfl
theorem call2 : CallOk Try.prog 2 := ⟨Try.f2, _, Try.func2, rfl, by kernel_rfl⟩
theorem call3 : CallOk Try.prog 3 := ⟨Try.f3, _, Try.func3, rfl, by kernel_rfl⟩
theorem call4 : CallOk Try.prog 4 := ⟨Try.f4, _, Try.func4, rfl, by kernel_rfl⟩
theorem call5 : CallOk Try.prog 5 := ⟨Try.f5, _, Try.func5, rfl, by kernel_rfl⟩
theorem call6 : CallOk Try.prog 6 := ⟨Try.f6, _, Try.func6, rfl, by kernel_rfl⟩
theorem call7 : CallOk Try.prog 7 := ⟨Try.f7, _, Try.func7, rfl, by kernel_rfl⟩
theorem call8 : CallOk Try.prog 8 := ⟨Try.f8, _, Try.func8, rfl, by kernel_rfl⟩
theorem call9 : CallOk Try.prog 9 := ⟨Try.f9, _, Try.func9, rfl, by kernel_rfl⟩
theorem call10 : CallOk Try.prog 10 := ⟨Try.f10, _, Try.func10, rfl, by kernel_rfl⟩
theorem call11 : CallOk Try.prog 11 := ⟨Try.f11, _, Try.func11, rfl, by kernel_rfl⟩
theorem call12 : CallOk Try.prog 12 := ⟨Try.f12, _, Try.func12, rfl, by kernel_rfl⟩
theorem call13 : CallOk Try.prog 13 := ⟨Try.f13, _, Try.func13, rfl, by kernel_rfl⟩
theorem call14 : CallOk Try.prog 14 := ⟨Try.f14, _, Try.func14, rfl, by kernel_rfl⟩
theorem call15 : CallOk Try.prog 15 := ⟨Try.f15, _, Try.func15, rfl, by kernel_rfl⟩
theorem call16 : CallOk Try.prog 16 := ⟨Try.f16, _, Try.func16, rfl, by kernel_rfl⟩
theorem call17 : CallOk Try.prog 17 := ⟨Try.f17, _, Try.func17, rfl, by kernel_rfl⟩
theorem call18 : CallOk Try.prog 18 := ⟨Try.f18, _, Try.func18, rfl, by kernel_rfl⟩
theorem call19 : CallOk Try.prog 19 := ⟨Try.f19, _, Try.func19, rfl, by kernel_rfl⟩
theorem call20 : CallOk Try.prog 20 := ⟨Try.f20, _, Try.func20, rfl, by kernel_rfl⟩
theorem call21 : CallOk Try.prog 21 := ⟨Try.f21, _, Try.func21, rfl, by kernel_rfl⟩
theorem call22 : CallOk Try.prog 22 := ⟨Try.f22, _, Try.func22, rfl, by kernel_rfl⟩
theorem call23 : CallOk Try.prog 23 := ⟨Try.f23, _, Try.func23, rfl, by kernel_rfl⟩
theorem call24 : CallOk Try.prog 24 := ⟨Try.f24, _, Try.func24, rfl, by kernel_rfl⟩
theorem call25 : CallOk Try.prog 25 := ⟨Try.f25, _, Try.func25, rfl, by kernel_rfl⟩
theorem call26 : CallOk Try.prog 26 := ⟨Try.f26, _, Try.func26, rfl, by kernel_rfl⟩
theorem call27 : CallOk Try.prog 27 := ⟨Try.f27, _, Try.func27, rfl, by kernel_rfl⟩
theorem call28 : CallOk Try.prog 28 := ⟨Try.f28, _, Try.func28, rfl, by kernel_rfl⟩
theorem call29 : CallOk Try.prog 29 := ⟨Try.f29, _, Try.func29, rfl, by kernel_rfl⟩
theorem call30 : CallOk Try.prog 30 := ⟨Try.f30, _, Try.func30, rfl, by kernel_rfl⟩
theorem call31 : CallOk Try.prog 31 := ⟨Try.f31, _, Try.func31, rfl, by kernel_rfl⟩
theorem call32 : CallOk Try.prog 32 := ⟨Try.f32, _, Try.func32, rfl, by kernel_rfl⟩
theorem call33 : CallOk Try.prog 33 := ⟨Try.f33, _, Try.func33, rfl, by kernel_rfl⟩
theorem call34 : CallOk Try.prog 34 := ⟨Try.f34, _, Try.func34, rfl, by kernel_rfl⟩
theorem call35 : CallOk Try.prog 35 := ⟨Try.f35, _, Try.func35, rfl, by kernel_rfl⟩
theorem call36 : CallOk Try.prog 36 := ⟨Try.f36, _, Try.func36, rfl, by kernel_rfl⟩
theorem call37 : CallOk Try.prog 37 := ⟨Try.f37, _, Try.func37, rfl, by kernel_rfl⟩
theorem call38 : CallOk Try.prog 38 := ⟨Try.f38, _, Try.func38, rfl, by kernel_rfl⟩
theorem call39 : CallOk Try.prog 39 := ⟨Try.f39, _, Try.func39, rfl, by kernel_rfl⟩
theorem call40 : CallOk Try.prog 40 := ⟨Try.f40, _, Try.func40, rfl, by kernel_rfl⟩
theorem call41 : CallOk Try.prog 41 := ⟨Try.f41, _, Try.func41, rfl, by kernel_rfl⟩
theorem call42 : CallOk Try.prog 42 := ⟨Try.f42, _, Try.func42, rfl, by kernel_rfl⟩
theorem call43 : CallOk Try.prog 43 := ⟨Try.f43, _, Try.func43, rfl, by kernel_rfl⟩
theorem call44 : CallOk Try.prog 44 := ⟨Try.f44, _, Try.func44, rfl, by kernel_rfl⟩
theorem call45 : CallOk Try.prog 45 := ⟨Try.f45, _, Try.func45, rfl, by kernel_rfl⟩
theorem call46 : CallOk Try.prog 46 := ⟨Try.f46, _, Try.func46, rfl, by kernel_rfl⟩
theorem call47 : CallOk Try.prog 47 := ⟨Try.f47, _, Try.func47, rfl, by kernel_rfl⟩
theorem call48 : CallOk Try.prog 48 := ⟨Try.f48, _, Try.func48, rfl, by kernel_rfl⟩
theorem call49 : CallOk Try.prog 49 := ⟨Try.f49, _, Try.func49, rfl, by kernel_rfl⟩
theorem call50 : CallOk Try.prog 50 := ⟨Try.f50, _, Try.func50, rfl, by kernel_rfl⟩
theorem call51 : CallOk Try.prog 51 := ⟨Try.f51, _, Try.func51, rfl, by kernel_rfl⟩
theorem call52 : CallOk Try.prog 52 := ⟨Try.f52, _, Try.func52, rfl, by kernel_rfl⟩
theorem call53 : CallOk Try.prog 53 := ⟨Try.f53, _, Try.func53, rfl, by kernel_rfl⟩
theorem call54 : CallOk Try.prog 54 := ⟨Try.f54, _, Try.func54, rfl, by kernel_rfl⟩
theorem call55 : CallOk Try.prog 55 := ⟨Try.f55, _, Try.func55, rfl, by kernel_rfl⟩
theorem call56 : CallOk Try.prog 56 := ⟨Try.f56, _, Try.func56, rfl, by kernel_rfl⟩
theorem call57 : CallOk Try.prog 57 := ⟨Try.f57, _, Try.func57, rfl, by kernel_rfl⟩
theorem call58 : CallOk Try.prog 58 := ⟨Try.f58, _, Try.func58, rfl, by kernel_rfl⟩
theorem call59 : CallOk Try.prog 59 := ⟨Try.f59, _, Try.func59, rfl, by kernel_rfl⟩
theorem call60 : CallOk Try.prog 60 := ⟨Try.f60, _, Try.func60, rfl, by kernel_rfl⟩
theorem call61 : CallOk Try.prog 61 := ⟨Try.f61, _, Try.func61, rfl, by kernel_rfl⟩
theorem call62 : CallOk Try.prog 62 := ⟨Try.f62, _, Try.func62, rfl, by kernel_rfl⟩
theorem call63 : CallOk Try.prog 63 := ⟨Try.f63, _, Try.func63, rfl, by kernel_rfl⟩
theorem call64 : CallOk Try.prog 64 := ⟨Try.f64, _, Try.func64, rfl, by kernel_rfl⟩
theorem call65 : CallOk Try.prog 65 := ⟨Try.f65, _, Try.func65, rfl, by kernel_rfl⟩
theorem call66 : CallOk Try.prog 66 := ⟨Try.f66, _, Try.func66, rfl, by kernel_rfl⟩
theorem call67 : CallOk Try.prog 67 := ⟨Try.f67, _, Try.func67, rfl, by kernel_rfl⟩
theorem call68 : CallOk Try.prog 68 := ⟨Try.f68, _, Try.func68, rfl, by kernel_rfl⟩
theorem call69 : CallOk Try.prog 69 := ⟨Try.f69, _, Try.func69, rfl, by kernel_rfl⟩
theorem call70 : CallOk Try.prog 70 := ⟨Try.f70, _, Try.func70, rfl, by kernel_rfl⟩
theorem call71 : CallOk Try.prog 71 := ⟨Try.f71, _, Try.func71, rfl, by kernel_rfl⟩
theorem call72 : CallOk Try.prog 72 := ⟨Try.f72, _, Try.func72, rfl, by kernel_rfl⟩
theorem call73 : CallOk Try.prog 73 := ⟨Try.f73, _, Try.func73, rfl, by kernel_rfl⟩
theorem call74 : CallOk Try.prog 74 := ⟨Try.f74, _, Try.func74, rfl, by kernel_rfl⟩
theorem call75 : CallOk Try.prog 75 := ⟨Try.f75, _, Try.func75, rfl, by kernel_rfl⟩
theorem call76 : CallOk Try.prog 76 := ⟨Try.f76, _, Try.func76, rfl, by kernel_rfl⟩
theorem call77 : CallOk Try.prog 77 := ⟨Try.f77, _, Try.func77, rfl, by kernel_rfl⟩
theorem call78 : CallOk Try.prog 78 := ⟨Try.f78, _, Try.func78, rfl, by kernel_rfl⟩
theorem call79 : CallOk Try.prog 79 := ⟨Try.f79, _, Try.func79, rfl, by kernel_rfl⟩
theorem call80 : CallOk Try.prog 80 := ⟨Try.f80, _, Try.func80, rfl, by kernel_rfl⟩
theorem call81 : CallOk Try.prog 81 := ⟨Try.f81, _, Try.func81, rfl, by kernel_rfl⟩
theorem call82 : CallOk Try.prog 82 := ⟨Try.f82, _, Try.func82, rfl, by kernel_rfl⟩
theorem call83 : CallOk Try.prog 83 := ⟨Try.f83, _, Try.func83, rfl, by kernel_rfl⟩
theorem call84 : CallOk Try.prog 84 := ⟨Try.f84, _, Try.func84, rfl, by kernel_rfl⟩
theorem call85 : CallOk Try.prog 85 := ⟨Try.f85, _, Try.func85, rfl, by kernel_rfl⟩
theorem call86 : CallOk Try.prog 86 := ⟨Try.f86, _, Try.func86, rfl, by kernel_rfl⟩
theorem call87 : CallOk Try.prog 87 := ⟨Try.f87, _, Try.func87, rfl, by kernel_rfl⟩
theorem call88 : CallOk Try.prog 88 := ⟨Try.f88, _, Try.func88, rfl, by kernel_rfl⟩
theorem call89 : CallOk Try.prog 89 := ⟨Try.f89, _, Try.func89, rfl, by kernel_rfl⟩
theorem call90 : CallOk Try.prog 90 := ⟨Try.f90, _, Try.func90, rfl, by kernel_rfl⟩
theorem call91 : CallOk Try.prog 91 := ⟨Try.f91, _, Try.func91, rfl, by kernel_rfl⟩
theorem call92 : CallOk Try.prog 92 := ⟨Try.f92, _, Try.func92, rfl, by kernel_rfl⟩
theorem call93 : CallOk Try.prog 93 := ⟨Try.f93, _, Try.func93, rfl, by kernel_rfl⟩
theorem call94 : CallOk Try.prog 94 := ⟨Try.f94, _, Try.func94, rfl, by kernel_rfl⟩
theorem call95 : CallOk Try.prog 95 := ⟨Try.f95, _, Try.func95, rfl, by kernel_rfl⟩
theorem call96 : CallOk Try.prog 96 := ⟨Try.f96, _, Try.func96, rfl, by kernel_rfl⟩
theorem call97 : CallOk Try.prog 97 := ⟨Try.f97, _, Try.func97, rfl, by kernel_rfl⟩
theorem call98 : CallOk Try.prog 98 := ⟨Try.f98, _, Try.func98, rfl, by kernel_rfl⟩
theorem call99 : CallOk Try.prog 99 := ⟨Try.f99, _, Try.func99, rfl, by kernel_rfl⟩
theorem call100 : CallOk Try.prog 100 := ⟨Try.f100, _, Try.func100, rfl, by kernel_rfl⟩
theorem call101 : CallOk Try.prog 101 := ⟨Try.f101, _, Try.func101, rfl, by kernel_rfl⟩
theorem call102 : CallOk Try.prog 102 := ⟨Try.f102, _, Try.func102, rfl, by kernel_rfl⟩
theorem call103 : CallOk Try.prog 103 := ⟨Try.f103, _, Try.func103, rfl, by kernel_rfl⟩
theorem call104 : CallOk Try.prog 104 := ⟨Try.f104, _, Try.func104, rfl, by kernel_rfl⟩
theorem call105 : CallOk Try.prog 105 := ⟨Try.f105, _, Try.func105, rfl, by kernel_rfl⟩
theorem call106 : CallOk Try.prog 106 := ⟨Try.f106, _, Try.func106, rfl, by kernel_rfl⟩
theorem call107 : CallOk Try.prog 107 := ⟨Try.f107, _, Try.func107, rfl, by kernel_rfl⟩
theorem call108 : CallOk Try.prog 108 := ⟨Try.f108, _, Try.func108, rfl, by kernel_rfl⟩
theorem call109 : CallOk Try.prog 109 := ⟨Try.f109, _, Try.func109, rfl, by kernel_rfl⟩
theorem call110 : CallOk Try.prog 110 := ⟨Try.f110, _, Try.func110, rfl, by kernel_rfl⟩
theorem call111 : CallOk Try.prog 111 := ⟨Try.f111, _, Try.func111, rfl, by kernel_rfl⟩
theorem call112 : CallOk Try.prog 112 := ⟨Try.f112, _, Try.func112, rfl, by kernel_rfl⟩
theorem call113 : CallOk Try.prog 113 := ⟨Try.f113, _, Try.func113, rfl, by kernel_rfl⟩
theorem call114 : CallOk Try.prog 114 := ⟨Try.f114, _, Try.func114, rfl, by kernel_rfl⟩
theorem call115 : CallOk Try.prog 115 := ⟨Try.f115, _, Try.func115, rfl, by kernel_rfl⟩
theorem call116 : CallOk Try.prog 116 := ⟨Try.f116, _, Try.func116, rfl, by kernel_rfl⟩
theorem call117 : CallOk Try.prog 117 := ⟨Try.f117, _, Try.func117, rfl, by kernel_rfl⟩
theorem call118 : CallOk Try.prog 118 := ⟨Try.f118, _, Try.func118, rfl, by kernel_rfl⟩
theorem call119 : CallOk Try.prog 119 := ⟨Try.f119, _, Try.func119, rfl, by kernel_rfl⟩
theorem call120 : CallOk Try.prog 120 := ⟨Try.f120, _, Try.func120, rfl, by kernel_rfl⟩
theorem call121 : CallOk Try.prog 121 := ⟨Try.f121, _, Try.func121, rfl, by kernel_rfl⟩
theorem call122 : CallOk Try.prog 122 := ⟨Try.f122, _, Try.func122, rfl, by kernel_rfl⟩
theorem call123 : CallOk Try.prog 123 := ⟨Try.f123, _, Try.func123, rfl, by kernel_rfl⟩
theorem call124 : CallOk Try.prog 124 := ⟨Try.f124, _, Try.func124, rfl, by kernel_rfl⟩
theorem call125 : CallOk Try.prog 125 := ⟨Try.f125, _, Try.func125, rfl, by kernel_rfl⟩
theorem call126 : CallOk Try.prog 126 := ⟨Try.f126, _, Try.func126, rfl, by kernel_rfl⟩
theorem call127 : CallOk Try.prog 127 := ⟨Try.f127, _, Try.func127, rfl, by kernel_rfl⟩
theorem call128 : CallOk Try.prog 128 := ⟨Try.f128, _, Try.func128, rfl, by kernel_rfl⟩
theorem call129 : CallOk Try.prog 129 := ⟨Try.f129, _, Try.func129, rfl, by kernel_rfl⟩
theorem call130 : CallOk Try.prog 130 := ⟨Try.f130, _, Try.func130, rfl, by kernel_rfl⟩
theorem call131 : CallOk Try.prog 131 := ⟨Try.f131, _, Try.func131, rfl, by kernel_rfl⟩
theorem call132 : CallOk Try.prog 132 := ⟨Try.f132, _, Try.func132, rfl, by kernel_rfl⟩
theorem call133 : CallOk Try.prog 133 := ⟨Try.f133, _, Try.func133, rfl, by kernel_rfl⟩
theorem call134 : CallOk Try.prog 134 := ⟨Try.f134, _, Try.func134, rfl, by kernel_rfl⟩
theorem call135 : CallOk Try.prog 135 := ⟨Try.f135, _, Try.func135, rfl, by kernel_rfl⟩
theorem call136 : CallOk Try.prog 136 := ⟨Try.f136, _, Try.func136, rfl, by kernel_rfl⟩
theorem call137 : CallOk Try.prog 137 := ⟨Try.f137, _, Try.func137, rfl, by kernel_rfl⟩
theorem call138 : CallOk Try.prog 138 := ⟨Try.f138, _, Try.func138, rfl, by kernel_rfl⟩
theorem call139 : CallOk Try.prog 139 := ⟨Try.f139, _, Try.func139, rfl, by kernel_rfl⟩
theorem call140 : CallOk Try.prog 140 := ⟨Try.f140, _, Try.func140, rfl, by kernel_rfl⟩
theorem call141 : CallOk Try.prog 141 := ⟨Try.f141, _, Try.func141, rfl, by kernel_rfl⟩
theorem call142 : CallOk Try.prog 142 := ⟨Try.f142, _, Try.func142, rfl, by kernel_rfl⟩
theorem call143 : CallOk Try.prog 143 := ⟨Try.f143, _, Try.func143, rfl, by kernel_rfl⟩
theorem call144 : CallOk Try.prog 144 := ⟨Try.f144, _, Try.func144, rfl, by kernel_rfl⟩
theorem call145 : CallOk Try.prog 145 := ⟨Try.f145, _, Try.func145, rfl, by kernel_rfl⟩
theorem call146 : CallOk Try.prog 146 := ⟨Try.f146, _, Try.func146, rfl, by kernel_rfl⟩
theorem call147 : CallOk Try.prog 147 := ⟨Try.f147, _, Try.func147, rfl, by kernel_rfl⟩
theorem call148 : CallOk Try.prog 148 := ⟨Try.f148, _, Try.func148, rfl, by kernel_rfl⟩
theorem call149 : CallOk Try.prog 149 := ⟨Try.f149, _, Try.func149, rfl, by kernel_rfl⟩
theorem call150 : CallOk Try.prog 150 := ⟨Try.f150, _, Try.func150, rfl, by kernel_rfl⟩
theorem call151 : CallOk Try.prog 151 := ⟨Try.f151, _, Try.func151, rfl, by kernel_rfl⟩
theorem call152 : CallOk Try.prog 152 := ⟨Try.f152, _, Try.func152, rfl, by kernel_rfl⟩
theorem call153 : CallOk Try.prog 153 := ⟨Try.f153, _, Try.func153, rfl, by kernel_rfl⟩
theorem call154 : CallOk Try.prog 154 := ⟨Try.f154, _, Try.func154, rfl, by kernel_rfl⟩
theorem call155 : CallOk Try.prog 155 := ⟨Try.f155, _, Try.func155, rfl, by kernel_rfl⟩
theorem call156 : CallOk Try.prog 156 := ⟨Try.f156, _, Try.func156, rfl, by kernel_rfl⟩
theorem call157 : CallOk Try.prog 157 := ⟨Try.f157, _, Try.func157, rfl, by kernel_rfl⟩
theorem call158 : CallOk Try.prog 158 := ⟨Try.f158, _, Try.func158, rfl, by kernel_rfl⟩
theorem call159 : CallOk Try.prog 159 := ⟨Try.f159, _, Try.func159, rfl, by kernel_rfl⟩
theorem call160 : CallOk Try.prog 160 := ⟨Try.f160, _, Try.func160, rfl, by kernel_rfl⟩
theorem call161 : CallOk Try.prog 161 := ⟨Try.f161, _, Try.func161, rfl, by kernel_rfl⟩
theorem call162 : CallOk Try.prog 162 := ⟨Try.f162, _, Try.func162, rfl, by kernel_rfl⟩
theorem call163 : CallOk Try.prog 163 := ⟨Try.f163, _, Try.func163, rfl, by kernel_rfl⟩
theorem call164 : CallOk Try.prog 164 := ⟨Try.f164, _, Try.func164, rfl, by kernel_rfl⟩
theorem call165 : CallOk Try.prog 165 := ⟨Try.f165, _, Try.func165, rfl, by kernel_rfl⟩
theorem call166 : CallOk Try.prog 166 := ⟨Try.f166, _, Try.func166, rfl, by kernel_rfl⟩
theorem call167 : CallOk Try.prog 167 := ⟨Try.f167, _, Try.func167, rfl, by kernel_rfl⟩
theorem call168 : CallOk Try.prog 168 := ⟨Try.f168, _, Try.func168, rfl, by kernel_rfl⟩
theorem call169 : CallOk Try.prog 169 := ⟨Try.f169, _, Try.func169, rfl, by kernel_rfl⟩
theorem call170 : CallOk Try.prog 170 := ⟨Try.f170, _, Try.func170, rfl, by kernel_rfl⟩
theorem call171 : CallOk Try.prog 171 := ⟨Try.f171, _, Try.func171, rfl, by kernel_rfl⟩
theorem call172 : CallOk Try.prog 172 := ⟨Try.f172, _, Try.func172, rfl, by kernel_rfl⟩
theorem call173 : CallOk Try.prog 173 := ⟨Try.f173, _, Try.func173, rfl, by kernel_rfl⟩
theorem call174 : CallOk Try.prog 174 := ⟨Try.f174, _, Try.func174, rfl, by kernel_rfl⟩
theorem call175 : CallOk Try.prog 175 := ⟨Try.f175, _, Try.func175, rfl, by kernel_rfl⟩
theorem call176 : CallOk Try.prog 176 := ⟨Try.f176, _, Try.func176, rfl, by kernel_rfl⟩
theorem call177 : CallOk Try.prog 177 := ⟨Try.f177, _, Try.func177, rfl, by kernel_rfl⟩
theorem call178 : CallOk Try.prog 178 := ⟨Try.f178, _, Try.func178, rfl, by kernel_rfl⟩
theorem call179 : CallOk Try.prog 179 := ⟨Try.f179, _, Try.func179, rfl, by kernel_rfl⟩
theorem call180 : CallOk Try.prog 180 := ⟨Try.f180, _, Try.func180, rfl, by kernel_rfl⟩
theorem call181 : CallOk Try.prog 181 := ⟨Try.f181, _, Try.func181, rfl, by kernel_rfl⟩
theorem call182 : CallOk Try.prog 182 := ⟨Try.f182, _, Try.func182, rfl, by kernel_rfl⟩
theorem call183 : CallOk Try.prog 183 := ⟨Try.f183, _, Try.func183, rfl, by kernel_rfl⟩
theorem call184 : CallOk Try.prog 184 := ⟨Try.f184, _, Try.func184, rfl, by kernel_rfl⟩
theorem call185 : CallOk Try.prog 185 := ⟨Try.f185, _, Try.func185, rfl, by kernel_rfl⟩
theorem call186 : CallOk Try.prog 186 := ⟨Try.f186, _, Try.func186, rfl, by kernel_rfl⟩
theorem call187 : CallOk Try.prog 187 := ⟨Try.f187, _, Try.func187, rfl, by kernel_rfl⟩
theorem call188 : CallOk Try.prog 188 := ⟨Try.f188, _, Try.func188, rfl, by kernel_rfl⟩
theorem call189 : CallOk Try.prog 189 := ⟨Try.f189, _, Try.func189, rfl, by kernel_rfl⟩
theorem call190 : CallOk Try.prog 190 := ⟨Try.f190, _, Try.func190, rfl, by kernel_rfl⟩
theorem call191 : CallOk Try.prog 191 := ⟨Try.f191, _, Try.func191, rfl, by kernel_rfl⟩
theorem call192 : CallOk Try.prog 192 := ⟨Try.f192, _, Try.func192, rfl, by kernel_rfl⟩
theorem call193 : CallOk Try.prog 193 := ⟨Try.f193, _, Try.func193, rfl, by kernel_rfl⟩
theorem call194 : CallOk Try.prog 194 := ⟨Try.f194, _, Try.func194, rfl, by kernel_rfl⟩
theorem call195 : CallOk Try.prog 195 := ⟨Try.f195, _, Try.func195, rfl, by kernel_rfl⟩
theorem call196 : CallOk Try.prog 196 := ⟨Try.f196, _, Try.func196, rfl, by kernel_rfl⟩
theorem call197 : CallOk Try.prog 197 := ⟨Try.f197, _, Try.func197, rfl, by kernel_rfl⟩
theorem call198 : CallOk Try.prog 198 := ⟨Try.f198, _, Try.func198, rfl, by kernel_rfl⟩
theorem call199 : CallOk Try.prog 199 := ⟨Try.f199, _, Try.func199, rfl, by kernel_rfl⟩
theorem call200 : CallOk Try.prog 200 := ⟨Try.f200, _, Try.func200, rfl, by kernel_rfl⟩
theorem call201 : CallOk Try.prog 201 := ⟨Try.f201, _, Try.func201, rfl, by kernel_rfl⟩
theorem call202 : CallOk Try.prog 202 := ⟨Try.f202, _, Try.func202, rfl, by kernel_rfl⟩
theorem call203 : CallOk Try.prog 203 := ⟨Try.f203, _, Try.func203, rfl, by kernel_rfl⟩
theorem call204 : CallOk Try.prog 204 := ⟨Try.f204, _, Try.func204, rfl, by kernel_rfl⟩
theorem call205 : CallOk Try.prog 205 := ⟨Try.f205, _, Try.func205, rfl, by kernel_rfl⟩
theorem call206 : CallOk Try.prog 206 := ⟨Try.f206, _, Try.func206, rfl, by kernel_rfl⟩
theorem call207 : CallOk Try.prog 207 := ⟨Try.f207, _, Try.func207, rfl, by kernel_rfl⟩
theorem call208 : CallOk Try.prog 208 := ⟨Try.f208, _, Try.func208, rfl, by kernel_rfl⟩
theorem call209 : CallOk Try.prog 209 := ⟨Try.f209, _, Try.func209, rfl, by kernel_rfl⟩
theorem call210 : CallOk Try.prog 210 := ⟨Try.f210, _, Try.func210, rfl, by kernel_rfl⟩
theorem call211 : CallOk Try.prog 211 := ⟨Try.f211, _, Try.func211, rfl, by kernel_rfl⟩
theorem call212 : CallOk Try.prog 212 := ⟨Try.f212, _, Try.func212, rfl, by kernel_rfl⟩
theorem call213 : CallOk Try.prog 213 := ⟨Try.f213, _, Try.func213, rfl, by kernel_rfl⟩
theorem call214 : CallOk Try.prog 214 := ⟨Try.f214, _, Try.func214, rfl, by kernel_rfl⟩
theorem call215 : CallOk Try.prog 215 := ⟨Try.f215, _, Try.func215, rfl, by kernel_rfl⟩
theorem call216 : CallOk Try.prog 216 := ⟨Try.f216, _, Try.func216, rfl, by kernel_rfl⟩
theorem call217 : CallOk Try.prog 217 := ⟨Try.f217, _, Try.func217, rfl, by kernel_rfl⟩
theorem call218 : CallOk Try.prog 218 := ⟨Try.f218, _, Try.func218, rfl, by kernel_rfl⟩
theorem call219 : CallOk Try.prog 219 := ⟨Try.f219, _, Try.func219, rfl, by kernel_rfl⟩
theorem call220 : CallOk Try.prog 220 := ⟨Try.f220, _, Try.func220, rfl, by kernel_rfl⟩
theorem call221 : CallOk Try.prog 221 := ⟨Try.f221, _, Try.func221, rfl, by kernel_rfl⟩
theorem call222 : CallOk Try.prog 222 := ⟨Try.f222, _, Try.func222, rfl, by kernel_rfl⟩
theorem call223 : CallOk Try.prog 223 := ⟨Try.f223, _, Try.func223, rfl, by kernel_rfl⟩
theorem call224 : CallOk Try.prog 224 := ⟨Try.f224, _, Try.func224, rfl, by kernel_rfl⟩
theorem call225 : CallOk Try.prog 225 := ⟨Try.f225, _, Try.func225, rfl, by kernel_rfl⟩
theorem call226 : CallOk Try.prog 226 := ⟨Try.f226, _, Try.func226, rfl, by kernel_rfl⟩
theorem call227 : CallOk Try.prog 227 := ⟨Try.f227, _, Try.func227, rfl, by kernel_rfl⟩
theorem call228 : CallOk Try.prog 228 := ⟨Try.f228, _, Try.func228, rfl, by kernel_rfl⟩
theorem call229 : CallOk Try.prog 229 := ⟨Try.f229, _, Try.func229, rfl, by kernel_rfl⟩
theorem call230 : CallOk Try.prog 230 := ⟨Try.f230, _, Try.func230, rfl, by kernel_rfl⟩
theorem call231 : CallOk Try.prog 231 := ⟨Try.f231, _, Try.func231, rfl, by kernel_rfl⟩
theorem call232 : CallOk Try.prog 232 := ⟨Try.f232, _, Try.func232, rfl, by kernel_rfl⟩
theorem call233 : CallOk Try.prog 233 := ⟨Try.f233, _, Try.func233, rfl, by kernel_rfl⟩
theorem call234 : CallOk Try.prog 234 := ⟨Try.f234, _, Try.func234, rfl, by kernel_rfl⟩
theorem call235 : CallOk Try.prog 235 := ⟨Try.f235, _, Try.func235, rfl, by kernel_rfl⟩
theorem call236 : CallOk Try.prog 236 := ⟨Try.f236, _, Try.func236, rfl, by kernel_rfl⟩
theorem call237 : CallOk Try.prog 237 := ⟨Try.f237, _, Try.func237, rfl, by kernel_rfl⟩
theorem call238 : CallOk Try.prog 238 := ⟨Try.f238, _, Try.func238, rfl, by kernel_rfl⟩
theorem call239 : CallOk Try.prog 239 := ⟨Try.f239, _, Try.func239, rfl, by kernel_rfl⟩
theorem call240 : CallOk Try.prog 240 := ⟨Try.f240, _, Try.func240, rfl, by kernel_rfl⟩
theorem call241 : CallOk Try.prog 241 := ⟨Try.f241, _, Try.func241, rfl, by kernel_rfl⟩
theorem call242 : CallOk Try.prog 242 := ⟨Try.f242, _, Try.func242, rfl, by kernel_rfl⟩
theorem call243 : CallOk Try.prog 243 := ⟨Try.f243, _, Try.func243, rfl, by kernel_rfl⟩
theorem call244 : CallOk Try.prog 244 := ⟨Try.f244, _, Try.func244, rfl, by kernel_rfl⟩
theorem call245 : CallOk Try.prog 245 := ⟨Try.f245, _, Try.func245, rfl, by kernel_rfl⟩
theorem call246 : CallOk Try.prog 246 := ⟨Try.f246, _, Try.func246, rfl, by kernel_rfl⟩
theorem call247 : CallOk Try.prog 247 := ⟨Try.f247, _, Try.func247, rfl, by kernel_rfl⟩
theorem call248 : CallOk Try.prog 248 := ⟨Try.f248, _, Try.func248, rfl, by kernel_rfl⟩
theorem call249 : CallOk Try.prog 249 := ⟨Try.f249, _, Try.func249, rfl, by kernel_rfl⟩
theorem call250 : CallOk Try.prog 250 := ⟨Try.f250, _, Try.func250, rfl, by kernel_rfl⟩
theorem call251 : CallOk Try.prog 251 := ⟨Try.f251, _, Try.func251, rfl, by kernel_rfl⟩
theorem call252 : CallOk Try.prog 252 := ⟨Try.f252, _, Try.func252, rfl, by kernel_rfl⟩
theorem call253 : CallOk Try.prog 253 := ⟨Try.f253, _, Try.func253, rfl, by kernel_rfl⟩
theorem call254 : CallOk Try.prog 254 := ⟨Try.f254, _, Try.func254, rfl, by kernel_rfl⟩
theorem call255 : CallOk Try.prog 255 := ⟨Try.f255, _, Try.func255, rfl, by kernel_rfl⟩
theorem call256 : CallOk Try.prog 256 := ⟨Try.f256, _, Try.func256, rfl, by kernel_rfl⟩
theorem call257 : CallOk Try.prog 257 := ⟨Try.f257, _, Try.func257, rfl, by kernel_rfl⟩
theorem call258 : CallOk Try.prog 258 := ⟨Try.f258, _, Try.func258, rfl, by kernel_rfl⟩
theorem call259 : CallOk Try.prog 259 := ⟨Try.f259, _, Try.func259, rfl, by kernel_rfl⟩
theorem call260 : CallOk Try.prog 260 := ⟨Try.f260, _, Try.func260, rfl, by kernel_rfl⟩
theorem call261 : CallOk Try.prog 261 := ⟨Try.f261, _, Try.func261, rfl, by kernel_rfl⟩
theorem call262 : CallOk Try.prog 262 := ⟨Try.f262, _, Try.func262, rfl, by kernel_rfl⟩
theorem call263 : CallOk Try.prog 263 := ⟨Try.f263, _, Try.func263, rfl, by kernel_rfl⟩
theorem call264 : CallOk Try.prog 264 := ⟨Try.f264, _, Try.func264, rfl, by kernel_rfl⟩
theorem call265 : CallOk Try.prog 265 := ⟨Try.f265, _, Try.func265, rfl, by kernel_rfl⟩
theorem call266 : CallOk Try.prog 266 := ⟨Try.f266, _, Try.func266, rfl, by kernel_rfl⟩
theorem call267 : CallOk Try.prog 267 := ⟨Try.f267, _, Try.func267, rfl, by kernel_rfl⟩
end Go.Proofs.Ytjpfngmoabnffaa
