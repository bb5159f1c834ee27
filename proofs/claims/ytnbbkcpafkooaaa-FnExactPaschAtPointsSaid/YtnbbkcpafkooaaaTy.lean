/-
  Closed facts on the types and the functions of the program.
-/
import Derived.Test.YtnbbkcpafkooaaaVcOwn
import Derived.Test.YtnbbkcpafkooaaaProg
namespace Go.Proofs.Ytnbbkcpafkooaaa
open Go Go.Vc Go.Proofs
theorem mo : Try.prog.follows .mixedOrders = true := by kernel_rfl
theorem sz1 : Sz Try.prog 1 1 := by unfold Sz; kernel_rfl
theorem pl1 : plainT Try.prog 1 = true := by kernel_rfl
theorem sz2 : Sz Try.prog 2 1 := by unfold Sz; kernel_rfl
theorem pl2 : plainT Try.prog 2 = true := by kernel_rfl
theorem inf2 : Inf Try.prog 2 1 8 (.int .i64 0) := by unfold Inf; kernel_rfl
theorem zr2 : Zr Try.prog 2 (.int .i64 0) := by unfold Zr; kernel_rfl
theorem sz3 : Sz Try.prog 3 1 := by unfold Sz; kernel_rfl
theorem pl3 : plainT Try.prog 3 = true := by kernel_rfl
theorem inf3 : Inf Try.prog 3 1 8 (.int .i64 0) := by unfold Inf; kernel_rfl
theorem zr3 : Zr Try.prog 3 (.int .i64 0) := by unfold Zr; kernel_rfl
theorem sz4 : Sz Try.prog 4 1 := by unfold Sz; kernel_rfl
theorem pl4 : plainT Try.prog 4 = true := by kernel_rfl
theorem inf4 : Inf Try.prog 4 1 1 (.bool false) := by unfold Inf; kernel_rfl
theorem zr4 : Zr Try.prog 4 (.bool false) := by unfold Zr; kernel_rfl
theorem sz5 : Sz Try.prog 5 1 := by unfold Sz; kernel_rfl
theorem pl5 : plainT Try.prog 5 = true := by kernel_rfl
theorem inf5 : Inf Try.prog 5 1 1 (.int .u8 0) := by unfold Inf; kernel_rfl
theorem zr5 : Zr Try.prog 5 (.int .u8 0) := by unfold Zr; kernel_rfl
theorem sz6 : Sz Try.prog 6 1 := by unfold Sz; kernel_rfl
theorem pl6 : plainT Try.prog 6 = true := by kernel_rfl
theorem inf6 : Inf Try.prog 6 1 1 (.int .u8 0) := by unfold Inf; kernel_rfl
theorem zr6 : Zr Try.prog 6 (.int .u8 0) := by unfold Zr; kernel_rfl
theorem sz7 : Sz Try.prog 7 4 := by unfold Sz; kernel_rfl
theorem ag7 : aggT Try.prog 7 = true := by kernel_rfl
theorem inf7 : Inf Try.prog 7 4 24 (.agg #[.int .i64 0, .int .i64 0, .bool false, .int .u8 0]) := by unfold Inf; kernel_rfl
theorem zr7 : Zr Try.prog 7 (.agg #[.int .i64 0, .int .i64 0, .bool false, .int .u8 0]) := by unfold Zr; kernel_rfl
theorem sz8 : Sz Try.prog 8 4 := by unfold Sz; kernel_rfl
theorem ag8 : aggT Try.prog 8 = true := by kernel_rfl
theorem inf8 : Inf Try.prog 8 4 24 (.agg #[.int .i64 0, .int .i64 0, .bool false, .int .u8 0]) := by unfold Inf; kernel_rfl
theorem zr8 : Zr Try.prog 8 (.agg #[.int .i64 0, .int .i64 0, .bool false, .int .u8 0]) := by unfold Zr; kernel_rfl
theorem sz9 : Sz Try.prog 9 1 := by unfold Sz; kernel_rfl
theorem pl9 : plainT Try.prog 9 = true := by kernel_rfl
theorem sz10 : Sz Try.prog 10 1 := by unfold Sz; kernel_rfl
theorem pl10 : plainT Try.prog 10 = true := by kernel_rfl
theorem sz11 : Sz Try.prog 11 1 := by unfold Sz; kernel_rfl
theorem pl11 : plainT Try.prog 11 = true := by kernel_rfl
theorem sz12 : Sz Try.prog 12 1 := by unfold Sz; kernel_rfl
theorem pl12 : plainT Try.prog 12 = true := by kernel_rfl
theorem inf12 : Inf Try.prog 12 1 8 (.int .u64 0) := by unfold Inf; kernel_rfl
theorem zr12 : Zr Try.prog 12 (.int .u64 0) := by unfold Zr; kernel_rfl
theorem sz13 : Sz Try.prog 13 2 := by unfold Sz; kernel_rfl
theorem ag13 : aggT Try.prog 13 = true := by kernel_rfl
theorem sz14 : Sz Try.prog 14 2 := by unfold Sz; kernel_rfl
theorem ag14 : aggT Try.prog 14 = true := by kernel_rfl
theorem sz15 : Sz Try.prog 15 1 := by unfold Sz; kernel_rfl
theorem pl15 : plainT Try.prog 15 = true := by kernel_rfl
theorem inf15 : Inf Try.prog 15 1 8 (.pointer none) := by unfold Inf; kernel_rfl
theorem zr15 : Zr Try.prog 15 (.pointer none) := by unfold Zr; kernel_rfl
theorem sz16 : Sz Try.prog 16 1 := by unfold Sz; kernel_rfl
theorem pl16 : plainT Try.prog 16 = true := by kernel_rfl
theorem inf16 : Inf Try.prog 16 1 8 (.pointer none) := by unfold Inf; kernel_rfl
theorem zr16 : Zr Try.prog 16 (.pointer none) := by unfold Zr; kernel_rfl
theorem sz17 : Sz Try.prog 17 1 := by unfold Sz; kernel_rfl
theorem pl17 : plainT Try.prog 17 = true := by kernel_rfl
theorem inf17 : Inf Try.prog 17 1 8 (.pointer none) := by unfold Inf; kernel_rfl
theorem zr17 : Zr Try.prog 17 (.pointer none) := by unfold Zr; kernel_rfl
theorem sz18 : Sz Try.prog 18 1 := by unfold Sz; kernel_rfl
theorem ag18 : aggT Try.prog 18 = true := by kernel_rfl
theorem inf18 : Inf Try.prog 18 1 8 (.agg #[.pointer none]) := by unfold Inf; kernel_rfl
theorem zr18 : Zr Try.prog 18 (.agg #[.pointer none]) := by unfold Zr; kernel_rfl
theorem sz19 : Sz Try.prog 19 1 := by unfold Sz; kernel_rfl
theorem ag19 : aggT Try.prog 19 = true := by kernel_rfl
theorem inf19 : Inf Try.prog 19 1 8 (.agg #[.pointer none]) := by unfold Inf; kernel_rfl
theorem zr19 : Zr Try.prog 19 (.agg #[.pointer none]) := by unfold Zr; kernel_rfl
theorem sz21 : Sz Try.prog 21 1 := by unfold Sz; kernel_rfl
theorem pl21 : plainT Try.prog 21 = true := by kernel_rfl
theorem inf21 : Inf Try.prog 21 1 4 (.int .i32 0) := by unfold Inf; kernel_rfl
theorem zr21 : Zr Try.prog 21 (.int .i32 0) := by unfold Zr; kernel_rfl
theorem sz22 : Sz Try.prog 22 1 := by unfold Sz; kernel_rfl
theorem pl22 : plainT Try.prog 22 = true := by kernel_rfl
theorem inf22 : Inf Try.prog 22 1 24 (.slice none 0 0) := by unfold Inf; kernel_rfl
theorem zr22 : Zr Try.prog 22 (.slice none 0 0) := by unfold Zr; kernel_rfl
theorem sz23 : Sz Try.prog 23 2 := by unfold Sz; kernel_rfl
theorem ag23 : aggT Try.prog 23 = true := by kernel_rfl
theorem inf23 : Inf Try.prog 23 2 32 (.agg #[.int .i64 0, .slice none 0 0]) := by unfold Inf; kernel_rfl
theorem zr23 : Zr Try.prog 23 (.agg #[.int .i64 0, .slice none 0 0]) := by unfold Zr; kernel_rfl
theorem sz24 : Sz Try.prog 24 2 := by unfold Sz; kernel_rfl
theorem ag24 : aggT Try.prog 24 = true := by kernel_rfl
theorem inf24 : Inf Try.prog 24 2 32 (.agg #[.int .i64 0, .slice none 0 0]) := by unfold Inf; kernel_rfl
theorem zr24 : Zr Try.prog 24 (.agg #[.int .i64 0, .slice none 0 0]) := by unfold Zr; kernel_rfl
theorem sz25 : Sz Try.prog 25 4 := by unfold Sz; kernel_rfl
theorem ag25 : aggT Try.prog 25 = true := by kernel_rfl
theorem inf25 : Inf Try.prog 25 4 64 (.agg #[.int .i64 0, .slice none 0 0, .int .i64 0, .slice none 0 0]) := by unfold Inf; kernel_rfl
theorem zr25 : Zr Try.prog 25 (.agg #[.int .i64 0, .slice none 0 0, .int .i64 0, .slice none 0 0]) := by unfold Zr; kernel_rfl
theorem sz26 : Sz Try.prog 26 4 := by unfold Sz; kernel_rfl
theorem ag26 : aggT Try.prog 26 = true := by kernel_rfl
theorem inf26 : Inf Try.prog 26 4 64 (.agg #[.int .i64 0, .slice none 0 0, .int .i64 0, .slice none 0 0]) := by unfold Inf; kernel_rfl
theorem zr26 : Zr Try.prog 26 (.agg #[.int .i64 0, .slice none 0 0, .int .i64 0, .slice none 0 0]) := by unfold Zr; kernel_rfl
theorem sz27 : Sz Try.prog 27 1 := by unfold Sz; kernel_rfl
theorem pl27 : plainT Try.prog 27 = true := by kernel_rfl
theorem sz28 : Sz Try.prog 28 1 := by unfold Sz; kernel_rfl
theorem pl28 : plainT Try.prog 28 = true := by kernel_rfl
theorem sz29 : Sz Try.prog 29 1 := by unfold Sz; kernel_rfl
theorem pl29 : plainT Try.prog 29 = true := by kernel_rfl
theorem inf29 : Inf Try.prog 29 1 24 (.slice none 0 0) := by unfold Inf; kernel_rfl
theorem zr29 : Zr Try.prog 29 (.slice none 0 0) := by unfold Zr; kernel_rfl
theorem sz30 : Sz Try.prog 30 2 := by unfold Sz; kernel_rfl
theorem ag30 : aggT Try.prog 30 = true := by kernel_rfl
theorem inf30 : Inf Try.prog 30 2 32 (.agg #[.int .i64 0, .slice none 0 0]) := by unfold Inf; kernel_rfl
theorem zr30 : Zr Try.prog 30 (.agg #[.int .i64 0, .slice none 0 0]) := by unfold Zr; kernel_rfl
theorem sz31 : Sz Try.prog 31 2 := by unfold Sz; kernel_rfl
theorem ag31 : aggT Try.prog 31 = true := by kernel_rfl
theorem inf31 : Inf Try.prog 31 2 32 (.agg #[.int .i64 0, .slice none 0 0]) := by unfold Inf; kernel_rfl
theorem zr31 : Zr Try.prog 31 (.agg #[.int .i64 0, .slice none 0 0]) := by unfold Zr; kernel_rfl
theorem sz32 : Sz Try.prog 32 4 := by unfold Sz; kernel_rfl
theorem ag32 : aggT Try.prog 32 = true := by kernel_rfl
theorem inf32 : Inf Try.prog 32 4 64 (.agg #[.int .i64 0, .slice none 0 0, .int .i64 0, .slice none 0 0]) := by unfold Inf; kernel_rfl
theorem zr32 : Zr Try.prog 32 (.agg #[.int .i64 0, .slice none 0 0, .int .i64 0, .slice none 0 0]) := by unfold Zr; kernel_rfl
theorem sz33 : Sz Try.prog 33 4 := by unfold Sz; kernel_rfl
theorem ag33 : aggT Try.prog 33 = true := by kernel_rfl
theorem inf33 : Inf Try.prog 33 4 64 (.agg #[.int .i64 0, .slice none 0 0, .int .i64 0, .slice none 0 0]) := by unfold Inf; kernel_rfl
theorem zr33 : Zr Try.prog 33 (.agg #[.int .i64 0, .slice none 0 0, .int .i64 0, .slice none 0 0]) := by unfold Zr; kernel_rfl
theorem sz34 : Sz Try.prog 34 1 := by unfold Sz; kernel_rfl
theorem pl34 : plainT Try.prog 34 = true := by kernel_rfl
theorem sz35 : Sz Try.prog 35 1 := by unfold Sz; kernel_rfl
theorem pl35 : plainT Try.prog 35 = true := by kernel_rfl
theorem sz36 : Sz Try.prog 36 1 := by unfold Sz; kernel_rfl
theorem pl36 : plainT Try.prog 36 = true := by kernel_rfl
theorem sz37 : Sz Try.prog 37 1 := by unfold Sz; kernel_rfl
theorem pl37 : plainT Try.prog 37 = true := by kernel_rfl
theorem sz38 : Sz Try.prog 38 1 := by unfold Sz; kernel_rfl
theorem pl38 : plainT Try.prog 38 = true := by kernel_rfl
theorem inf38 : Inf Try.prog 38 1 24 (.slice none 0 0) := by unfold Inf; kernel_rfl
theorem zr38 : Zr Try.prog 38 (.slice none 0 0) := by unfold Zr; kernel_rfl
theorem sz40 : Sz Try.prog 40 1 := by unfold Sz; kernel_rfl
theorem pl40 : plainT Try.prog 40 = true := by kernel_rfl
theorem sz41 : Sz Try.prog 41 1 := by unfold Sz; kernel_rfl
theorem pl41 : plainT Try.prog 41 = true := by kernel_rfl
theorem sz42 : Sz Try.prog 42 1 := by unfold Sz; kernel_rfl
theorem pl42 : plainT Try.prog 42 = true := by kernel_rfl
theorem sz43 : Sz Try.prog 43 1 := by unfold Sz; kernel_rfl
theorem pl43 : plainT Try.prog 43 = true := by kernel_rfl
theorem sz44 : Sz Try.prog 44 1 := by unfold Sz; kernel_rfl
theorem pl44 : plainT Try.prog 44 = true := by kernel_rfl
theorem sz45 : Sz Try.prog 45 1 := by unfold Sz; kernel_rfl
theorem pl45 : plainT Try.prog 45 = true := by kernel_rfl
theorem sz46 : Sz Try.prog 46 1 := by unfold Sz; kernel_rfl
theorem pl46 : plainT Try.prog 46 = true := by kernel_rfl
theorem sz47 : Sz Try.prog 47 1 := by unfold Sz; kernel_rfl
theorem pl47 : plainT Try.prog 47 = true := by kernel_rfl
theorem inf47 : Inf Try.prog 47 1 24 (.slice none 0 0) := by unfold Inf; kernel_rfl
theorem zr47 : Zr Try.prog 47 (.slice none 0 0) := by unfold Zr; kernel_rfl
theorem sz49 : Sz Try.prog 49 1 := by unfold Sz; kernel_rfl
theorem pl49 : plainT Try.prog 49 = true := by kernel_rfl
theorem sz50 : Sz Try.prog 50 1 := by unfold Sz; kernel_rfl
theorem pl50 : plainT Try.prog 50 = true := by kernel_rfl
theorem sz51 : Sz Try.prog 51 1 := by unfold Sz; kernel_rfl
theorem pl51 : plainT Try.prog 51 = true := by kernel_rfl
theorem sz52 : Sz Try.prog 52 1 := by unfold Sz; kernel_rfl
theorem pl52 : plainT Try.prog 52 = true := by kernel_rfl
theorem sz53 : Sz Try.prog 53 1 := by unfold Sz; kernel_rfl
theorem pl53 : plainT Try.prog 53 = true := by kernel_rfl
theorem sz54 : Sz Try.prog 54 1 := by unfold Sz; kernel_rfl
theorem pl54 : plainT Try.prog 54 = true := by kernel_rfl
theorem sz55 : Sz Try.prog 55 1 := by unfold Sz; kernel_rfl
theorem pl55 : plainT Try.prog 55 = true := by kernel_rfl
theorem sz56 : Sz Try.prog 56 1 := by unfold Sz; kernel_rfl
theorem pl56 : plainT Try.prog 56 = true := by kernel_rfl
theorem sz57 : Sz Try.prog 57 1 := by unfold Sz; kernel_rfl
theorem pl57 : plainT Try.prog 57 = true := by kernel_rfl
theorem sz58 : Sz Try.prog 58 1 := by unfold Sz; kernel_rfl
theorem pl58 : plainT Try.prog 58 = true := by kernel_rfl
theorem sz59 : Sz Try.prog 59 1 := by unfold Sz; kernel_rfl
theorem pl59 : plainT Try.prog 59 = true := by kernel_rfl
theorem sz60 : Sz Try.prog 60 1 := by unfold Sz; kernel_rfl
theorem pl60 : plainT Try.prog 60 = true := by kernel_rfl
theorem sz61 : Sz Try.prog 61 1 := by unfold Sz; kernel_rfl
theorem pl61 : plainT Try.prog 61 = true := by kernel_rfl
theorem sz62 : Sz Try.prog 62 1 := by unfold Sz; kernel_rfl
theorem pl62 : plainT Try.prog 62 = true := by kernel_rfl
theorem sz63 : Sz Try.prog 63 1 := by unfold Sz; kernel_rfl
theorem pl63 : plainT Try.prog 63 = true := by kernel_rfl
theorem sz64 : Sz Try.prog 64 1 := by unfold Sz; kernel_rfl
theorem pl64 : plainT Try.prog 64 = true := by kernel_rfl
theorem sz65 : Sz Try.prog 65 3 := by unfold Sz; kernel_rfl
theorem ag65 : aggT Try.prog 65 = true := by kernel_rfl
theorem inf65 : Inf Try.prog 65 3 24 (.agg #[.int .i64 0, .int .i64 0, .int .i64 0]) := by unfold Inf; kernel_rfl
theorem zr65 : Zr Try.prog 65 (.agg #[.int .i64 0, .int .i64 0, .int .i64 0]) := by unfold Zr; kernel_rfl
theorem sz66 : Sz Try.prog 66 3 := by unfold Sz; kernel_rfl
theorem ag66 : aggT Try.prog 66 = true := by kernel_rfl
theorem inf66 : Inf Try.prog 66 3 24 (.agg #[.int .i64 0, .int .i64 0, .int .i64 0]) := by unfold Inf; kernel_rfl
theorem zr66 : Zr Try.prog 66 (.agg #[.int .i64 0, .int .i64 0, .int .i64 0]) := by unfold Zr; kernel_rfl
theorem sz67 : Sz Try.prog 67 1 := by unfold Sz; kernel_rfl
theorem pl67 : plainT Try.prog 67 = true := by kernel_rfl
theorem sz68 : Sz Try.prog 68 1 := by unfold Sz; kernel_rfl
theorem pl68 : plainT Try.prog 68 = true := by kernel_rfl
theorem sz69 : Sz Try.prog 69 1 := by unfold Sz; kernel_rfl
theorem pl69 : plainT Try.prog 69 = true := by kernel_rfl
theorem sz70 : Sz Try.prog 70 1 := by unfold Sz; kernel_rfl
theorem pl70 : plainT Try.prog 70 = true := by kernel_rfl
theorem sz71 : Sz Try.prog 71 1 := by unfold Sz; kernel_rfl
theorem pl71 : plainT Try.prog 71 = true := by kernel_rfl
theorem sz72 : Sz Try.prog 72 1 := by unfold Sz; kernel_rfl
theorem pl72 : plainT Try.prog 72 = true := by kernel_rfl
theorem sz73 : Sz Try.prog 73 1 := by unfold Sz; kernel_rfl
theorem pl73 : plainT Try.prog 73 = true := by kernel_rfl
theorem sz74 : Sz Try.prog 74 1 := by unfold Sz; kernel_rfl
theorem pl74 : plainT Try.prog 74 = true := by kernel_rfl
theorem sz75 : Sz Try.prog 75 1 := by unfold Sz; kernel_rfl
theorem pl75 : plainT Try.prog 75 = true := by kernel_rfl
theorem inf75 : Inf Try.prog 75 1 8 (.int .u64 0) := by unfold Inf; kernel_rfl
theorem zr75 : Zr Try.prog 75 (.int .u64 0) := by unfold Zr; kernel_rfl
theorem sz76 : Sz Try.prog 76 1 := by unfold Sz; kernel_rfl
theorem pl76 : plainT Try.prog 76 = true := by kernel_rfl
theorem sz77 : Sz Try.prog 77 1 := by unfold Sz; kernel_rfl
theorem pl77 : plainT Try.prog 77 = true := by kernel_rfl
theorem sz78 : Sz Try.prog 78 1 := by unfold Sz; kernel_rfl
theorem pl78 : plainT Try.prog 78 = true := by kernel_rfl
theorem sz79 : Sz Try.prog 79 1 := by unfold Sz; kernel_rfl
theorem pl79 : plainT Try.prog 79 = true := by kernel_rfl
theorem sz80 : Sz Try.prog 80 1 := by unfold Sz; kernel_rfl
theorem pl80 : plainT Try.prog 80 = true := by kernel_rfl
theorem inf80 : Inf Try.prog 80 1 8 (.int .u64 0) := by unfold Inf; kernel_rfl
theorem zr80 : Zr Try.prog 80 (.int .u64 0) := by unfold Zr; kernel_rfl
theorem sz81 : Sz Try.prog 81 1 := by unfold Sz; kernel_rfl
theorem pl81 : plainT Try.prog 81 = true := by kernel_rfl
theorem inf81 : Inf Try.prog 81 1 8 (.int .u64 0) := by unfold Inf; kernel_rfl
theorem zr81 : Zr Try.prog 81 (.int .u64 0) := by unfold Zr; kernel_rfl
theorem sz82 : Sz Try.prog 82 1 := by unfold Sz; kernel_rfl
theorem pl82 : plainT Try.prog 82 = true := by kernel_rfl
theorem sz83 : Sz Try.prog 83 1 := by unfold Sz; kernel_rfl
theorem pl83 : plainT Try.prog 83 = true := by kernel_rfl
theorem sz84 : Sz Try.prog 84 1 := by unfold Sz; kernel_rfl
theorem pl84 : plainT Try.prog 84 = true := by kernel_rfl
theorem sz85 : Sz Try.prog 85 1 := by unfold Sz; kernel_rfl
theorem pl85 : plainT Try.prog 85 = true := by kernel_rfl
theorem sz86 : Sz Try.prog 86 1 := by unfold Sz; kernel_rfl
theorem pl86 : plainT Try.prog 86 = true := by kernel_rfl
theorem sz87 : Sz Try.prog 87 1 := by unfold Sz; kernel_rfl
theorem pl87 : plainT Try.prog 87 = true := by kernel_rfl
theorem sz88 : Sz Try.prog 88 1 := by unfold Sz; kernel_rfl
theorem pl88 : plainT Try.prog 88 = true := by kernel_rfl
theorem sz90 : Sz Try.prog 90 1 := by unfold Sz; kernel_rfl
theorem pl90 : plainT Try.prog 90 = true := by kernel_rfl
theorem sz91 : Sz Try.prog 91 1 := by unfold Sz; kernel_rfl
theorem pl91 : plainT Try.prog 91 = true := by kernel_rfl
theorem sz92 : Sz Try.prog 92 1 := by unfold Sz; kernel_rfl
theorem pl92 : plainT Try.prog 92 = true := by kernel_rfl
theorem sz93 : Sz Try.prog 93 1 := by unfold Sz; kernel_rfl
theorem pl93 : plainT Try.prog 93 = true := by kernel_rfl
theorem sz94 : Sz Try.prog 94 1 := by unfold Sz; kernel_rfl
theorem pl94 : plainT Try.prog 94 = true := by kernel_rfl
theorem sz95 : Sz Try.prog 95 1 := by unfold Sz; kernel_rfl
theorem pl95 : plainT Try.prog 95 = true := by kernel_rfl
theorem sz96 : Sz Try.prog 96 1 := by unfold Sz; kernel_rfl
theorem pl96 : plainT Try.prog 96 = true := by kernel_rfl
theorem inf96 : Inf Try.prog 96 1 8 (.pointer none) := by unfold Inf; kernel_rfl
theorem zr96 : Zr Try.prog 96 (.pointer none) := by unfold Zr; kernel_rfl
theorem sz98 : Sz Try.prog 98 1 := by unfold Sz; kernel_rfl
theorem pl98 : plainT Try.prog 98 = true := by kernel_rfl
theorem sz99 : Sz Try.prog 99 1 := by unfold Sz; kernel_rfl
theorem pl99 : plainT Try.prog 99 = true := by kernel_rfl
theorem sz100 : Sz Try.prog 100 1 := by unfold Sz; kernel_rfl
theorem pl100 : plainT Try.prog 100 = true := by kernel_rfl
theorem sz101 : Sz Try.prog 101 1 := by unfold Sz; kernel_rfl
theorem pl101 : plainT Try.prog 101 = true := by kernel_rfl
theorem sz102 : Sz Try.prog 102 1 := by unfold Sz; kernel_rfl
theorem pl102 : plainT Try.prog 102 = true := by kernel_rfl
theorem sz103 : Sz Try.prog 103 1 := by unfold Sz; kernel_rfl
theorem pl103 : plainT Try.prog 103 = true := by kernel_rfl
theorem sz104 : Sz Try.prog 104 1 := by unfold Sz; kernel_rfl
theorem pl104 : plainT Try.prog 104 = true := by kernel_rfl
theorem sz105 : Sz Try.prog 105 1 := by unfold Sz; kernel_rfl
theorem pl105 : plainT Try.prog 105 = true := by kernel_rfl
theorem sz106 : Sz Try.prog 106 15 := by unfold Sz; kernel_rfl
theorem ag106 : aggT Try.prog 106 = true := by kernel_rfl
theorem inf106 : Inf Try.prog 106 15 120 (.agg #[.int .i64 0, .int .i64 0, .int .i64 0, .int .i64 0, .int .i64 0, .int .i64 0, .int .i64 0, .int .i64 0, .int .i64 0, .int .i64 0, .int .i64 0, .int .i64 0, .int .i64 0, .int .i64 0, .int .i64 0]) := by unfold Inf; kernel_rfl
theorem zr106 : Zr Try.prog 106 (.agg #[.int .i64 0, .int .i64 0, .int .i64 0, .int .i64 0, .int .i64 0, .int .i64 0, .int .i64 0, .int .i64 0, .int .i64 0, .int .i64 0, .int .i64 0, .int .i64 0, .int .i64 0, .int .i64 0, .int .i64 0]) := by unfold Zr; kernel_rfl
theorem sz107 : Sz Try.prog 107 1 := by unfold Sz; kernel_rfl
theorem pl107 : plainT Try.prog 107 = true := by kernel_rfl
theorem sz108 : Sz Try.prog 108 1 := by unfold Sz; kernel_rfl
theorem pl108 : plainT Try.prog 108 = true := by kernel_rfl
theorem inf108 : Inf Try.prog 108 1 24 (.slice none 0 0) := by unfold Inf; kernel_rfl
theorem zr108 : Zr Try.prog 108 (.slice none 0 0) := by unfold Zr; kernel_rfl
theorem sz109 : Sz Try.prog 109 1 := by unfold Sz; kernel_rfl
theorem pl109 : plainT Try.prog 109 = true := by kernel_rfl
theorem sz110 : Sz Try.prog 110 1 := by unfold Sz; kernel_rfl
theorem pl110 : plainT Try.prog 110 = true := by kernel_rfl
theorem sz111 : Sz Try.prog 111 1 := by unfold Sz; kernel_rfl
theorem pl111 : plainT Try.prog 111 = true := by kernel_rfl
theorem sz112 : Sz Try.prog 112 1 := by unfold Sz; kernel_rfl
theorem pl112 : plainT Try.prog 112 = true := by kernel_rfl
theorem sz113 : Sz Try.prog 113 1 := by unfold Sz; kernel_rfl
theorem pl113 : plainT Try.prog 113 = true := by kernel_rfl
theorem sz114 : Sz Try.prog 114 1 := by unfold Sz; kernel_rfl
theorem pl114 : plainT Try.prog 114 = true := by kernel_rfl
theorem inf114 : Inf Try.prog 114 1 4 (.int .u32 0) := by unfold Inf; kernel_rfl
theorem zr114 : Zr Try.prog 114 (.int .u32 0) := by unfold Zr; kernel_rfl
theorem sz115 : Sz Try.prog 115 1 := by unfold Sz; kernel_rfl
theorem pl115 : plainT Try.prog 115 = true := by kernel_rfl
theorem sz116 : Sz Try.prog 116 1 := by unfold Sz; kernel_rfl
theorem pl116 : plainT Try.prog 116 = true := by kernel_rfl
theorem sz117 : Sz Try.prog 117 15 := by unfold Sz; kernel_rfl
theorem ag117 : aggT Try.prog 117 = true := by kernel_rfl
theorem inf117 : Inf Try.prog 117 15 120 (.agg #[.int .i64 0, .int .i64 0, .int .i64 0, .int .i64 0, .int .i64 0, .int .i64 0, .int .i64 0, .int .i64 0, .int .i64 0, .int .i64 0, .int .i64 0, .int .i64 0, .int .i64 0, .int .i64 0, .int .i64 0]) := by unfold Inf; kernel_rfl
theorem zr117 : Zr Try.prog 117 (.agg #[.int .i64 0, .int .i64 0, .int .i64 0, .int .i64 0, .int .i64 0, .int .i64 0, .int .i64 0, .int .i64 0, .int .i64 0, .int .i64 0, .int .i64 0, .int .i64 0, .int .i64 0, .int .i64 0, .int .i64 0]) := by unfold Zr; kernel_rfl
theorem sz118 : Sz Try.prog 118 225 := by unfold Sz; kernel_rfl
theorem ag118 : aggT Try.prog 118 = true := by kernel_rfl
theorem zr118 : Zr Try.prog 118 (.agg (List.replicate 225 (.int .i64 0)).toArray) := by unfold Zr; kernel_rfl
theorem sz119 : Sz Try.prog 119 225 := by unfold Sz; kernel_rfl
theorem ag119 : aggT Try.prog 119 = true := by kernel_rfl
theorem zr119 : Zr Try.prog 119 (.agg (List.replicate 225 (.int .i64 0)).toArray) := by unfold Zr; kernel_rfl
theorem sz120 : Sz Try.prog 120 1 := by unfold Sz; kernel_rfl
theorem pl120 : plainT Try.prog 120 = true := by kernel_rfl
theorem sz121 : Sz Try.prog 121 4 := by unfold Sz; kernel_rfl
theorem ag121 : aggT Try.prog 121 = true := by kernel_rfl
theorem sz122 : Sz Try.prog 122 4 := by unfold Sz; kernel_rfl
theorem ag122 : aggT Try.prog 122 = true := by kernel_rfl
theorem sz123 : Sz Try.prog 123 0 := by unfold Sz; kernel_rfl
theorem ag123 : aggT Try.prog 123 = true := by kernel_rfl
theorem inf123 : Inf Try.prog 123 0 0 (.agg #[]) := by unfold Inf; kernel_rfl
theorem zr123 : Zr Try.prog 123 (.agg #[]) := by unfold Zr; kernel_rfl
theorem sz124 : Sz Try.prog 124 0 := by unfold Sz; kernel_rfl
theorem ag124 : aggT Try.prog 124 = true := by kernel_rfl
theorem inf124 : Inf Try.prog 124 0 0 (.agg #[]) := by unfold Inf; kernel_rfl
theorem zr124 : Zr Try.prog 124 (.agg #[]) := by unfold Zr; kernel_rfl
theorem sz125 : Sz Try.prog 125 0 := by unfold Sz; kernel_rfl
theorem ag125 : aggT Try.prog 125 = true := by kernel_rfl
theorem inf125 : Inf Try.prog 125 0 0 (.agg #[]) := by unfold Inf; kernel_rfl
theorem zr125 : Zr Try.prog 125 (.agg #[]) := by unfold Zr; kernel_rfl
theorem sz126 : Sz Try.prog 126 1 := by unfold Sz; kernel_rfl
theorem pl126 : plainT Try.prog 126 = true := by kernel_rfl
theorem sz127 : Sz Try.prog 127 1 := by unfold Sz; kernel_rfl
theorem pl127 : plainT Try.prog 127 = true := by kernel_rfl
theorem inf127 : Inf Try.prog 127 1 1 (.int .u8 0) := by unfold Inf; kernel_rfl
theorem zr127 : Zr Try.prog 127 (.int .u8 0) := by unfold Zr; kernel_rfl
theorem sz128 : Sz Try.prog 128 1 := by unfold Sz; kernel_rfl
theorem pl128 : plainT Try.prog 128 = true := by kernel_rfl
theorem inf128 : Inf Try.prog 128 1 1 (.int .u8 0) := by unfold Inf; kernel_rfl
theorem zr128 : Zr Try.prog 128 (.int .u8 0) := by unfold Zr; kernel_rfl
theorem sz129 : Sz Try.prog 129 1 := by unfold Sz; kernel_rfl
theorem pl129 : plainT Try.prog 129 = true := by kernel_rfl
theorem sz130 : Sz Try.prog 130 1 := by unfold Sz; kernel_rfl
theorem pl130 : plainT Try.prog 130 = true := by kernel_rfl
theorem inf130 : Inf Try.prog 130 1 8 (.pointer none) := by unfold Inf; kernel_rfl
theorem zr130 : Zr Try.prog 130 (.pointer none) := by unfold Zr; kernel_rfl
theorem sz131 : Sz Try.prog 131 1 := by unfold Sz; kernel_rfl
theorem pl131 : plainT Try.prog 131 = true := by kernel_rfl
theorem inf131 : Inf Try.prog 131 1 4 (.int .i32 0) := by unfold Inf; kernel_rfl
theorem zr131 : Zr Try.prog 131 (.int .i32 0) := by unfold Zr; kernel_rfl
theorem sz132 : Sz Try.prog 132 1 := by unfold Sz; kernel_rfl
theorem pl132 : plainT Try.prog 132 = true := by kernel_rfl
theorem inf132 : Inf Try.prog 132 1 4 (.int .i32 0) := by unfold Inf; kernel_rfl
theorem zr132 : Zr Try.prog 132 (.int .i32 0) := by unfold Zr; kernel_rfl
theorem sz133 : Sz Try.prog 133 11 := by unfold Sz; kernel_rfl
theorem ag133 : aggT Try.prog 133 = true := by kernel_rfl
theorem sz134 : Sz Try.prog 134 11 := by unfold Sz; kernel_rfl
theorem ag134 : aggT Try.prog 134 = true := by kernel_rfl
theorem sz135 : Sz Try.prog 135 1 := by unfold Sz; kernel_rfl
theorem pl135 : plainT Try.prog 135 = true := by kernel_rfl
theorem sz136 : Sz Try.prog 136 1 := by unfold Sz; kernel_rfl
theorem pl136 : plainT Try.prog 136 = true := by kernel_rfl
theorem call2 : CallOk Try.prog 2 := ⟨Try.f2, _, Try.func2, rfl, by kernel_rfl⟩
theorem call3 : CallOk Try.prog 3 := ⟨Try.f3, _, Try.func3, rfl, by kernel_rfl⟩
theorem call4 : CallOk Try.prog 4 := ⟨Try.f4, _, Try.func4, rfl, by kernel_rfl⟩
theorem call5 : CallOk Try.prog 5 := ⟨Try.f5, _, Try.func5, rfl, by kernel_rfl⟩
theorem call6 : CallOk Try.prog 6 := ⟨Try.f6, _, Try.func6, rfl, by kernel_rfl⟩
theorem call7 : CallOk Try.prog 7 := ⟨Try.f7, _, Try.func7, rfl, by kernel_rfl⟩
theorem call8 : CallOk Try.prog 8 := ⟨Try.f8, _, Try.func8, rfl, by kernel_rfl⟩
theorem call9 : CallOk Try.prog 9 := ⟨Try.f9, _, Try.func9, rfl, by kernel_rfl⟩
theorem call10 : CallOk Try.prog 10 := ⟨Try.f10, _, Try.func10, rfl, by kernel_rfl⟩
theorem call11 : CallOk Try.prog 11 := ⟨Try.f11, _, Try.func11, rfl, by kernel_rfl⟩
theorem call12 : CallOk Try.prog 12 := ⟨Try.f12, _, Try.func12, rfl, by kernel_rfl⟩
theorem call13 : CallOk Try.prog 13 := ⟨Try.f13, _, Try.func13, rfl, by kernel_rfl⟩
theorem call14 : CallOk Try.prog 14 := ⟨Try.f14, _, Try.func14, rfl, by kernel_rfl⟩
theorem call15 : CallOk Try.prog 15 := ⟨Try.f15, _, Try.func15, rfl, by kernel_rfl⟩
theorem call16 : CallOk Try.prog 16 := ⟨Try.f16, _, Try.func16, rfl, by kernel_rfl⟩
theorem call17 : CallOk Try.prog 17 := ⟨Try.f17, _, Try.func17, rfl, by kernel_rfl⟩
theorem call18 : CallOk Try.prog 18 := ⟨Try.f18, _, Try.func18, rfl, by kernel_rfl⟩
theorem call19 : CallOk Try.prog 19 := ⟨Try.f19, _, Try.func19, rfl, by kernel_rfl⟩
theorem call20 : CallOk Try.prog 20 := ⟨Try.f20, _, Try.func20, rfl, by kernel_rfl⟩
theorem call21 : CallOk Try.prog 21 := ⟨Try.f21, _, Try.func21, rfl, by kernel_rfl⟩
theorem call22 : CallOk Try.prog 22 := ⟨Try.f22, _, Try.func22, rfl, by kernel_rfl⟩
theorem call23 : CallOk Try.prog 23 := ⟨Try.f23, _, Try.func23, rfl, by kernel_rfl⟩
theorem call24 : CallOk Try.prog 24 := ⟨Try.f24, _, Try.func24, rfl, by kernel_rfl⟩
theorem call25 : CallOk Try.prog 25 := ⟨Try.f25, _, Try.func25, rfl, by kernel_rfl⟩
theorem call26 : CallOk Try.prog 26 := ⟨Try.f26, _, Try.func26, rfl, by kernel_rfl⟩
theorem call27 : CallOk Try.prog 27 := ⟨Try.f27, _, Try.func27, rfl, by kernel_rfl⟩
theorem call28 : CallOk Try.prog 28 := ⟨Try.f28, _, Try.func28, rfl, by kernel_rfl⟩
theorem call29 : CallOk Try.prog 29 := ⟨Try.f29, _, Try.func29, rfl, by kernel_rfl⟩
theorem call30 : CallOk Try.prog 30 := ⟨Try.f30, _, Try.func30, rfl, by kernel_rfl⟩
theorem call31 : CallOk Try.prog 31 := ⟨Try.f31, _, Try.func31, rfl, by kernel_rfl⟩
theorem call32 : CallOk Try.prog 32 := ⟨Try.f32, _, Try.func32, rfl, by kernel_rfl⟩
theorem call33 : CallOk Try.prog 33 := ⟨Try.f33, _, Try.func33, rfl, by kernel_rfl⟩
theorem call34 : CallOk Try.prog 34 := ⟨Try.f34, _, Try.func34, rfl, by kernel_rfl⟩
theorem call35 : CallOk Try.prog 35 := ⟨Try.f35, _, Try.func35, rfl, by kernel_rfl⟩
theorem call36 : CallOk Try.prog 36 := ⟨Try.f36, _, Try.func36, rfl, by kernel_rfl⟩
theorem call37 : CallOk Try.prog 37 := ⟨Try.f37, _, Try.func37, rfl, by kernel_rfl⟩
theorem call38 : CallOk Try.prog 38 := ⟨Try.f38, _, Try.func38, rfl, by kernel_rfl⟩
theorem call39 : CallOk Try.prog 39 := ⟨Try.f39, _, Try.func39, rfl, by kernel_rfl⟩
theorem call40 : CallOk Try.prog 40 := ⟨Try.f40, _, Try.func40, rfl, by kernel_rfl⟩
theorem call41 : CallOk Try.prog 41 := ⟨Try.f41, _, Try.func41, rfl, by kernel_rfl⟩
theorem call42 : CallOk Try.prog 42 := ⟨Try.f42, _, Try.func42, rfl, by kernel_rfl⟩
theorem call43 : CallOk Try.prog 43 := ⟨Try.f43, _, Try.func43, rfl, by kernel_rfl⟩
theorem call44 : CallOk Try.prog 44 := ⟨Try.f44, _, Try.func44, rfl, by kernel_rfl⟩
theorem call45 : CallOk Try.prog 45 := ⟨Try.f45, _, Try.func45, rfl, by kernel_rfl⟩
theorem call46 : CallOk Try.prog 46 := ⟨Try.f46, _, Try.func46, rfl, by kernel_rfl⟩
theorem call47 : CallOk Try.prog 47 := ⟨Try.f47, _, Try.func47, rfl, by kernel_rfl⟩
theorem call48 : CallOk Try.prog 48 := ⟨Try.f48, _, Try.func48, rfl, by kernel_rfl⟩
theorem call49 : CallOk Try.prog 49 := ⟨Try.f49, _, Try.func49, rfl, by kernel_rfl⟩
theorem call50 : CallOk Try.prog 50 := ⟨Try.f50, _, Try.func50, rfl, by kernel_rfl⟩
theorem call51 : CallOk Try.prog 51 := ⟨Try.f51, _, Try.func51, rfl, by kernel_rfl⟩
theorem call52 : CallOk Try.prog 52 := ⟨Try.f52, _, Try.func52, rfl, by kernel_rfl⟩
theorem call53 : CallOk Try.prog 53 := ⟨Try.f53, _, Try.func53, rfl, by kernel_rfl⟩
theorem call54 : CallOk Try.prog 54 := ⟨Try.f54, _, Try.func54, rfl, by kernel_rfl⟩
theorem call55 : CallOk Try.prog 55 := ⟨Try.f55, _, Try.func55, rfl, by kernel_rfl⟩
theorem call56 : CallOk Try.prog 56 := ⟨Try.f56, _, Try.func56, rfl, by kernel_rfl⟩
theorem call57 : CallOk Try.prog 57 := ⟨Try.f57, _, Try.func57, rfl, by kernel_rfl⟩
theorem call58 : CallOk Try.prog 58 := ⟨Try.f58, _, Try.func58, rfl, by kernel_rfl⟩
theorem call59 : CallOk Try.prog 59 := ⟨Try.f59, _, Try.func59, rfl, by kernel_rfl⟩
theorem call60 : CallOk Try.prog 60 := ⟨Try.f60, _, Try.func60, rfl, by kernel_rfl⟩
theorem call61 : CallOk Try.prog 61 := ⟨Try.f61, _, Try.func61, rfl, by kernel_rfl⟩
theorem call62 : CallOk Try.prog 62 := ⟨Try.f62, _, Try.func62, rfl, by kernel_rfl⟩
theorem call63 : CallOk Try.prog 63 := ⟨Try.f63, _, Try.func63, rfl, by kernel_rfl⟩
theorem call64 : CallOk Try.prog 64 := ⟨Try.f64, _, Try.func64, rfl, by kernel_rfl⟩
theorem call65 : CallOk Try.prog 65 := ⟨Try.f65, _, Try.func65, rfl, by kernel_rfl⟩
theorem call66 : CallOk Try.prog 66 := ⟨Try.f66, _, Try.func66, rfl, by kernel_rfl⟩
theorem call67 : CallOk Try.prog 67 := ⟨Try.f67, _, Try.func67, rfl, by kernel_rfl⟩
theorem call68 : CallOk Try.prog 68 := ⟨Try.f68, _, Try.func68, rfl, by kernel_rfl⟩
theorem call69 : CallOk Try.prog 69 := ⟨Try.f69, _, Try.func69, rfl, by kernel_rfl⟩
theorem call70 : CallOk Try.prog 70 := ⟨Try.f70, _, Try.func70, rfl, by kernel_rfl⟩
theorem call71 : CallOk Try.prog 71 := ⟨Try.f71, _, Try.func71, rfl, by kernel_rfl⟩
theorem call72 : CallOk Try.prog 72 := ⟨Try.f72, _, Try.func72, rfl, by kernel_rfl⟩
theorem call73 : CallOk Try.prog 73 := ⟨Try.f73, _, Try.func73, rfl, by kernel_rfl⟩
theorem call74 : CallOk Try.prog 74 := ⟨Try.f74, _, Try.func74, rfl, by kernel_rfl⟩
theorem call75 : CallOk Try.prog 75 := ⟨Try.f75, _, Try.func75, rfl, by kernel_rfl⟩
theorem call76 : CallOk Try.prog 76 := ⟨Try.f76, _, Try.func76, rfl, by kernel_rfl⟩
theorem call77 : CallOk Try.prog 77 := ⟨Try.f77, _, Try.func77, rfl, by kernel_rfl⟩
theorem call78 : CallOk Try.prog 78 := ⟨Try.f78, _, Try.func78, rfl, by kernel_rfl⟩
theorem call79 : CallOk Try.prog 79 := ⟨Try.f79, _, Try.func79, rfl, by kernel_rfl⟩
theorem call80 : CallOk Try.prog 80 := ⟨Try.f80, _, Try.func80, rfl, by kernel_rfl⟩
theorem call81 : CallOk Try.prog 81 := ⟨Try.f81, _, Try.func81, rfl, by kernel_rfl⟩
theorem call82 : CallOk Try.prog 82 := ⟨Try.f82, _, Try.func82, rfl, by kernel_rfl⟩
theorem call83 : CallOk Try.prog 83 := ⟨Try.f83, _, Try.func83, rfl, by kernel_rfl⟩
theorem call84 : CallOk Try.prog 84 := ⟨Try.f84, _, Try.func84, rfl, by kernel_rfl⟩
theorem call85 : CallOk Try.prog 85 := ⟨Try.f85, _, Try.func85, rfl, by kernel_rfl⟩
theorem call86 : CallOk Try.prog 86 := ⟨Try.f86, _, Try.func86, rfl, by kernel_rfl⟩
theorem call87 : CallOk Try.prog 87 := ⟨Try.f87, _, Try.func87, rfl, by kernel_rfl⟩
theorem call88 : CallOk Try.prog 88 := ⟨Try.f88, _, Try.func88, rfl, by kernel_rfl⟩
theorem call89 : CallOk Try.prog 89 := ⟨Try.f89, _, Try.func89, rfl, by kernel_rfl⟩
theorem call90 : CallOk Try.prog 90 := ⟨Try.f90, _, Try.func90, rfl, by kernel_rfl⟩
theorem call91 : CallOk Try.prog 91 := ⟨Try.f91, _, Try.func91, rfl, by kernel_rfl⟩
theorem call92 : CallOk Try.prog 92 := ⟨Try.f92, _, Try.func92, rfl, by kernel_rfl⟩
theorem call93 : CallOk Try.prog 93 := ⟨Try.f93, _, Try.func93, rfl, by kernel_rfl⟩
theorem call94 : CallOk Try.prog 94 := ⟨Try.f94, _, Try.func94, rfl, by kernel_rfl⟩
theorem call95 : CallOk Try.prog 95 := ⟨Try.f95, _, Try.func95, rfl, by kernel_rfl⟩
theorem call96 : CallOk Try.prog 96 := ⟨Try.f96, _, Try.func96, rfl, by kernel_rfl⟩
theorem call97 : CallOk Try.prog 97 := ⟨Try.f97, _, Try.func97, rfl, by kernel_rfl⟩
theorem call98 : CallOk Try.prog 98 := ⟨Try.f98, _, Try.func98, rfl, by kernel_rfl⟩
theorem call99 : CallOk Try.prog 99 := ⟨Try.f99, _, Try.func99, rfl, by kernel_rfl⟩
theorem call100 : CallOk Try.prog 100 := ⟨Try.f100, _, Try.func100, rfl, by kernel_rfl⟩
theorem call101 : CallOk Try.prog 101 := ⟨Try.f101, _, Try.func101, rfl, by kernel_rfl⟩
theorem call102 : CallOk Try.prog 102 := ⟨Try.f102, _, Try.func102, rfl, by kernel_rfl⟩
theorem call103 : CallOk Try.prog 103 := ⟨Try.f103, _, Try.func103, rfl, by kernel_rfl⟩
end Go.Proofs.Ytnbbkcpafkooaaa
