/- down by 9, 12, 13, 15 places, the number of places as it is written. -/
import Derived.Test.YtnbenmpjpogldaaDown
namespace Go.Proofs.Ytnbenmpjpogldaa
set_option linter.unusedVariables false
set_option linter.unusedSimpArgs false
set_option maxRecDepth 100000
open Go.RowKit
theorem down9 (a : Int) (w : World) (h1 : -9223372036854775808 ≤ a) (h2 : a ≤ 9223372036854775807) : Calls Try.prog 10 #[.int .i64 a, .int .u64 9] w (GivesZ w (a / 512)) := down_at a 9 512 (a / 512) w h1 h2 (by omega) (by decide) rfl
theorem down12 (a : Int) (w : World) (h1 : -9223372036854775808 ≤ a) (h2 : a ≤ 9223372036854775807) : Calls Try.prog 10 #[.int .i64 a, .int .u64 12] w (GivesZ w (a / 4096)) := down_at a 12 4096 (a / 4096) w h1 h2 (by omega) (by decide) rfl
theorem down13 (a : Int) (w : World) (h1 : -9223372036854775808 ≤ a) (h2 : a ≤ 9223372036854775807) : Calls Try.prog 10 #[.int .i64 a, .int .u64 13] w (GivesZ w (a / 8192)) := down_at a 13 8192 (a / 8192) w h1 h2 (by omega) (by decide) rfl
theorem down14 (a : Int) (w : World) (h1 : -9223372036854775808 ≤ a) (h2 : a ≤ 9223372036854775807) : Calls Try.prog 10 #[.int .i64 a, .int .u64 14] w (GivesZ w (a / 16384)) := down_at a 14 16384 (a / 16384) w h1 h2 (by omega) (by decide) rfl
theorem down15 (a : Int) (w : World) (h1 : -9223372036854775808 ≤ a) (h2 : a ≤ 9223372036854775807) : Calls Try.prog 10 #[.int .i64 a, .int .u64 15] w (GivesZ w (a / 32768)) := down_at a 15 32768 (a / 32768) w h1 h2 (by omega) (by decide) rfl
end Go.Proofs.Ytnbenmpjpogldaa
