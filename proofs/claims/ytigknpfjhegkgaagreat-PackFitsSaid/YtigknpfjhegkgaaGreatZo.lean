/- Two long lists of the code, by name. -/
import Derived.Test.YtigknpfjhegkgaaGreatTab
set_option linter.unusedSimpArgs false
set_option linter.unusedVariables false
namespace Go.Proofs.YtigknpfjhegkgaaGreat
open Go Go.AS
/-- An option's cells, none set. -/
def opZ : List Value := [.int .i64 (0), .int .i64 (0), .int .i64 (0), .bool false, .bool false, .int .u64 (0), .int .u64 (0), .int .i64 (0), .int .u16 (0), .int .i64 (0), .bool false, .int .i64 (0), .int .u32 (0), .int .u32 (0), .string ⟨⟨[]⟩⟩, .bool false, .bool false, .bool false, .int .u64 (0), .bool false, .bool false, .int .u64 (0), .int .u32 (0), .int .i64 (0), .bool false, .int .u16 (0), .bool false, .int .i64 (0), .string ⟨⟨[]⟩⟩, .bool false, .int .i64 (0), .string ⟨⟨[]⟩⟩, .string ⟨⟨[]⟩⟩, .bool false, .int .u64 (0), .int .u64 (0), .int .i64 (0), .int .i64 (0)]
/-- How two options are compared. -/
def opL : List (Nat × LeafK) := [(0, .i), (1, .i), (2, .i), (3, .b), (4, .b), (5, .i), (6, .i), (7, .i), (8, .i), (9, .i), (10, .b), (11, .i), (12, .i), (13, .i), (14, .s), (15, .b), (16, .b), (17, .b), (18, .i), (19, .b), (20, .b), (21, .i), (22, .i), (23, .i), (24, .b), (25, .i), (26, .b), (27, .i), (28, .s), (29, .b), (30, .i), (31, .s), (32, .s), (33, .b), (34, .i), (35, .i), (36, .i), (37, .i)]
end Go.Proofs.YtigknpfjhegkgaaGreat
