/- What the tables say of each type: its zero value, its cells, its bytes. -/
import Derived.Test.YthlpimojojofbaaOwn
namespace Go.Proofs.Ythlpimojojofbaa.O
open Go.RowKit Go.Proofs.YthlpimojojofbaaW.PrintWords Go.Proofs.YthlpimojojofbaaW.PrintLast Go.Proofs.YthlpimojojofbaaW.PrintMore Go.Proofs.Ythlpimojojofbaa.F
set_option maxRecDepth 100000
theorem zero3 : (Try.prog.info? 3).bind (·.zero) = some (.int .i64 0) := by kernel_rfl
theorem size3 : (Try.prog.info? 3).map (·.size) = some 1 := by kernel_rfl
theorem inf3 : (Try.prog.info? 3).map (fun i => (i.zero, i.size, i.bytes)) = some (some (.int .i64 0), 1, 8) := by kernel_rfl
theorem zs3 : (Try.prog.info? 3).map (fun i => (i.zero, i.size)) = some (some (.int .i64 0), 1) := by kernel_rfl
theorem zero5 : (Try.prog.info? 5).bind (·.zero) = some (.int .u8 0) := by kernel_rfl
theorem size5 : (Try.prog.info? 5).map (·.size) = some 1 := by kernel_rfl
theorem inf5 : (Try.prog.info? 5).map (fun i => (i.zero, i.size, i.bytes)) = some (some (.int .u8 0), 1, 1) := by kernel_rfl
theorem zs5 : (Try.prog.info? 5).map (fun i => (i.zero, i.size)) = some (some (.int .u8 0), 1) := by kernel_rfl
theorem zero48 : (Try.prog.info? 48).bind (·.zero) = some (.int .u32 0) := by kernel_rfl
theorem size48 : (Try.prog.info? 48).map (·.size) = some 1 := by kernel_rfl
theorem inf48 : (Try.prog.info? 48).map (fun i => (i.zero, i.size, i.bytes)) = some (some (.int .u32 0), 1, 4) := by kernel_rfl
theorem zs48 : (Try.prog.info? 48).map (fun i => (i.zero, i.size)) = some (some (.int .u32 0), 1) := by kernel_rfl
theorem zero39 : (Try.prog.info? 39).bind (·.zero) = some (.int .u64 0) := by kernel_rfl
theorem size39 : (Try.prog.info? 39).map (·.size) = some 1 := by kernel_rfl
theorem inf39 : (Try.prog.info? 39).map (fun i => (i.zero, i.size, i.bytes)) = some (some (.int .u64 0), 1, 8) := by kernel_rfl
theorem zs39 : (Try.prog.info? 39).map (fun i => (i.zero, i.size)) = some (some (.int .u64 0), 1) := by kernel_rfl
theorem zero121 : (Try.prog.info? 121).bind (·.zero) = some (.int .u64 0) := by kernel_rfl
theorem size121 : (Try.prog.info? 121).map (·.size) = some 1 := by kernel_rfl
theorem inf121 : (Try.prog.info? 121).map (fun i => (i.zero, i.size, i.bytes)) = some (some (.int .u64 0), 1, 8) := by kernel_rfl
theorem zs121 : (Try.prog.info? 121).map (fun i => (i.zero, i.size)) = some (some (.int .u64 0), 1) := by kernel_rfl
theorem zero4 : (Try.prog.info? 4).bind (·.zero) = some (.bool false) := by kernel_rfl
theorem size4 : (Try.prog.info? 4).map (·.size) = some 1 := by kernel_rfl
theorem inf4 : (Try.prog.info? 4).map (fun i => (i.zero, i.size, i.bytes)) = some (some (.bool false), 1, 1) := by kernel_rfl
theorem zs4 : (Try.prog.info? 4).map (fun i => (i.zero, i.size)) = some (some (.bool false), 1) := by kernel_rfl
theorem zero62 : (Try.prog.info? 62).bind (·.zero) = some (.int .i64 0) := by kernel_rfl
theorem size62 : (Try.prog.info? 62).map (·.size) = some 1 := by kernel_rfl
theorem inf62 : (Try.prog.info? 62).map (fun i => (i.zero, i.size, i.bytes)) = some (some (.int .i64 0), 1, 8) := by kernel_rfl
theorem zs62 : (Try.prog.info? 62).map (fun i => (i.zero, i.size)) = some (some (.int .i64 0), 1) := by kernel_rfl
theorem zero9 : (Try.prog.info? 9).bind (·.zero) = some (.string ⟨#[]⟩) := by kernel_rfl
theorem size9 : (Try.prog.info? 9).map (·.size) = some 1 := by kernel_rfl
theorem inf9 : (Try.prog.info? 9).map (fun i => (i.zero, i.size, i.bytes)) = some (some (.string ⟨#[]⟩), 1, 16) := by kernel_rfl
theorem zs9 : (Try.prog.info? 9).map (fun i => (i.zero, i.size)) = some (some (.string ⟨#[]⟩), 1) := by kernel_rfl
theorem zero35 : (Try.prog.info? 35).bind (·.zero) = some (.slice none 0 0) := by kernel_rfl
theorem size35 : (Try.prog.info? 35).map (·.size) = some 1 := by kernel_rfl
theorem inf35 : (Try.prog.info? 35).map (fun i => (i.zero, i.size, i.bytes)) = some (some (.slice none 0 0), 1, 24) := by kernel_rfl
theorem zs35 : (Try.prog.info? 35).map (fun i => (i.zero, i.size)) = some (some (.slice none 0 0), 1) := by kernel_rfl
theorem zero70 : (Try.prog.info? 70).bind (·.zero) = some (.slice none 0 0) := by kernel_rfl
theorem size70 : (Try.prog.info? 70).map (·.size) = some 1 := by kernel_rfl
theorem inf70 : (Try.prog.info? 70).map (fun i => (i.zero, i.size, i.bytes)) = some (some (.slice none 0 0), 1, 24) := by kernel_rfl
theorem zs70 : (Try.prog.info? 70).map (fun i => (i.zero, i.size)) = some (some (.slice none 0 0), 1) := by kernel_rfl
theorem zero81 : (Try.prog.info? 81).bind (·.zero) = some (.slice none 0 0) := by kernel_rfl
theorem size81 : (Try.prog.info? 81).map (·.size) = some 1 := by kernel_rfl
theorem inf81 : (Try.prog.info? 81).map (fun i => (i.zero, i.size, i.bytes)) = some (some (.slice none 0 0), 1, 24) := by kernel_rfl
theorem zs81 : (Try.prog.info? 81).map (fun i => (i.zero, i.size)) = some (some (.slice none 0 0), 1) := by kernel_rfl
theorem zero57 : (Try.prog.info? 57).bind (·.zero) = some (.slice none 0 0) := by kernel_rfl
theorem size57 : (Try.prog.info? 57).map (·.size) = some 1 := by kernel_rfl
theorem inf57 : (Try.prog.info? 57).map (fun i => (i.zero, i.size, i.bytes)) = some (some (.slice none 0 0), 1, 24) := by kernel_rfl
theorem zs57 : (Try.prog.info? 57).map (fun i => (i.zero, i.size)) = some (some (.slice none 0 0), 1) := by kernel_rfl
theorem zero74 : (Try.prog.info? 74).bind (·.zero) = some (.slice none 0 0) := by kernel_rfl
theorem size74 : (Try.prog.info? 74).map (·.size) = some 1 := by kernel_rfl
theorem inf74 : (Try.prog.info? 74).map (fun i => (i.zero, i.size, i.bytes)) = some (some (.slice none 0 0), 1, 24) := by kernel_rfl
theorem zs74 : (Try.prog.info? 74).map (fun i => (i.zero, i.size)) = some (some (.slice none 0 0), 1) := by kernel_rfl
theorem zero96 : (Try.prog.info? 96).bind (·.zero) = some (.slice none 0 0) := by kernel_rfl
theorem size96 : (Try.prog.info? 96).map (·.size) = some 1 := by kernel_rfl
theorem inf96 : (Try.prog.info? 96).map (fun i => (i.zero, i.size, i.bytes)) = some (some (.slice none 0 0), 1, 24) := by kernel_rfl
theorem zs96 : (Try.prog.info? 96).map (fun i => (i.zero, i.size)) = some (some (.slice none 0 0), 1) := by kernel_rfl
theorem zero75 : (Try.prog.info? 75).bind (·.zero) = some (.slice none 0 0) := by kernel_rfl
theorem size75 : (Try.prog.info? 75).map (·.size) = some 1 := by kernel_rfl
theorem inf75 : (Try.prog.info? 75).map (fun i => (i.zero, i.size, i.bytes)) = some (some (.slice none 0 0), 1, 24) := by kernel_rfl
theorem zs75 : (Try.prog.info? 75).map (fun i => (i.zero, i.size)) = some (some (.slice none 0 0), 1) := by kernel_rfl
theorem zero31 : (Try.prog.info? 31).bind (·.zero) = some (.slice none 0 0) := by kernel_rfl
theorem size31 : (Try.prog.info? 31).map (·.size) = some 1 := by kernel_rfl
theorem inf31 : (Try.prog.info? 31).map (fun i => (i.zero, i.size, i.bytes)) = some (some (.slice none 0 0), 1, 24) := by kernel_rfl
theorem zs31 : (Try.prog.info? 31).map (fun i => (i.zero, i.size)) = some (some (.slice none 0 0), 1) := by kernel_rfl
theorem zero43 : (Try.prog.info? 43).bind (·.zero) = some ((.agg (nums .u8 (zs 64)).toArray)) := by kernel_rfl
theorem size43 : (Try.prog.info? 43).map (·.size) = some 64 := by kernel_rfl
theorem inf43 : (Try.prog.info? 43).map (fun i => (i.zero, i.size, i.bytes)) = some (some ((.agg (nums .u8 (zs 64)).toArray)), 64, 64) := by kernel_rfl
theorem zs43 : (Try.prog.info? 43).map (fun i => (i.zero, i.size)) = some (some ((.agg (nums .u8 (zs 64)).toArray)), 64) := by kernel_rfl
theorem zero42 : (Try.prog.info? 42).bind (·.zero) = some ((.agg (nums .u8 (zs 64)).toArray)) := by kernel_rfl
theorem size42 : (Try.prog.info? 42).map (·.size) = some 64 := by kernel_rfl
theorem inf42 : (Try.prog.info? 42).map (fun i => (i.zero, i.size, i.bytes)) = some (some ((.agg (nums .u8 (zs 64)).toArray)), 64, 64) := by kernel_rfl
theorem zs42 : (Try.prog.info? 42).map (fun i => (i.zero, i.size)) = some (some ((.agg (nums .u8 (zs 64)).toArray)), 64) := by kernel_rfl
theorem zero40 : (Try.prog.info? 40).bind (·.zero) = some ((.agg (nums .u64 (zs 2)).toArray)) := by kernel_rfl
theorem size40 : (Try.prog.info? 40).map (·.size) = some 2 := by kernel_rfl
theorem inf40 : (Try.prog.info? 40).map (fun i => (i.zero, i.size, i.bytes)) = some (some ((.agg (nums .u64 (zs 2)).toArray)), 2, 16) := by kernel_rfl
theorem zs40 : (Try.prog.info? 40).map (fun i => (i.zero, i.size)) = some (some ((.agg (nums .u64 (zs 2)).toArray)), 2) := by kernel_rfl
theorem zero41 : (Try.prog.info? 41).bind (·.zero) = some ((.agg (nums .i64 (zs 2)).toArray)) := by kernel_rfl
theorem size41 : (Try.prog.info? 41).map (·.size) = some 2 := by kernel_rfl
theorem inf41 : (Try.prog.info? 41).map (fun i => (i.zero, i.size, i.bytes)) = some (some ((.agg (nums .i64 (zs 2)).toArray)), 2, 16) := by kernel_rfl
theorem zs41 : (Try.prog.info? 41).map (fun i => (i.zero, i.size)) = some (some ((.agg (nums .i64 (zs 2)).toArray)), 2) := by kernel_rfl
theorem zero37 : (Try.prog.info? 37).bind (·.zero) = some ((.agg [.slice none 0 0, .int .i64 0, .int .i64 0].toArray)) := by kernel_rfl
theorem size37 : (Try.prog.info? 37).map (·.size) = some 3 := by kernel_rfl
theorem inf37 : (Try.prog.info? 37).map (fun i => (i.zero, i.size, i.bytes)) = some (some ((.agg [.slice none 0 0, .int .i64 0, .int .i64 0].toArray)), 3, 40) := by kernel_rfl
theorem zs37 : (Try.prog.info? 37).map (fun i => (i.zero, i.size)) = some (some ((.agg [.slice none 0 0, .int .i64 0, .int .i64 0].toArray)), 3) := by kernel_rfl
theorem zero66 : (Try.prog.info? 66).bind (·.zero) = some ((.agg [.int .i64 0, .int .u32 0, .slice none 0 0].toArray)) := by kernel_rfl
theorem size66 : (Try.prog.info? 66).map (·.size) = some 3 := by kernel_rfl
theorem inf66 : (Try.prog.info? 66).map (fun i => (i.zero, i.size, i.bytes)) = some (some ((.agg [.int .i64 0, .int .u32 0, .slice none 0 0].toArray)), 3, 40) := by kernel_rfl
theorem zs66 : (Try.prog.info? 66).map (fun i => (i.zero, i.size)) = some (some ((.agg [.int .i64 0, .int .u32 0, .slice none 0 0].toArray)), 3) := by kernel_rfl
theorem zero79 : (Try.prog.info? 79).bind (·.zero) = some ((.agg [.int .i64 0, .int .i64 0, .int .i64 0, .int .i64 0].toArray)) := by kernel_rfl
theorem size79 : (Try.prog.info? 79).map (·.size) = some 4 := by kernel_rfl
theorem inf79 : (Try.prog.info? 79).map (fun i => (i.zero, i.size, i.bytes)) = some (some ((.agg [.int .i64 0, .int .i64 0, .int .i64 0, .int .i64 0].toArray)), 4, 32) := by kernel_rfl
theorem zs79 : (Try.prog.info? 79).map (fun i => (i.zero, i.size)) = some (some ((.agg [.int .i64 0, .int .i64 0, .int .i64 0, .int .i64 0].toArray)), 4) := by kernel_rfl
theorem zero116 : (Try.prog.info? 116).bind (·.zero) = some ((.agg [.bool false, .slice none 0 0].toArray)) := by kernel_rfl
theorem size116 : (Try.prog.info? 116).map (·.size) = some 2 := by kernel_rfl
theorem inf116 : (Try.prog.info? 116).map (fun i => (i.zero, i.size, i.bytes)) = some (some ((.agg [.bool false, .slice none 0 0].toArray)), 2, 32) := by kernel_rfl
theorem zs116 : (Try.prog.info? 116).map (fun i => (i.zero, i.size)) = some (some ((.agg [.bool false, .slice none 0 0].toArray)), 2) := by kernel_rfl
theorem zero61 : (Try.prog.info? 61).bind (·.zero) = some ((.agg [.bool false, .slice none 0 0].toArray)) := by kernel_rfl
theorem size61 : (Try.prog.info? 61).map (·.size) = some 2 := by kernel_rfl
theorem inf61 : (Try.prog.info? 61).map (fun i => (i.zero, i.size, i.bytes)) = some (some ((.agg [.bool false, .slice none 0 0].toArray)), 2, 32) := by kernel_rfl
theorem zs61 : (Try.prog.info? 61).map (fun i => (i.zero, i.size)) = some (some ((.agg [.bool false, .slice none 0 0].toArray)), 2) := by kernel_rfl
theorem zero23 : (Try.prog.info? 23).bind (·.zero) = some ((.agg [.int .i64 0, .int .i64 0].toArray)) := by kernel_rfl
theorem size23 : (Try.prog.info? 23).map (·.size) = some 2 := by kernel_rfl
theorem inf23 : (Try.prog.info? 23).map (fun i => (i.zero, i.size, i.bytes)) = some (some ((.agg [.int .i64 0, .int .i64 0].toArray)), 2, 16) := by kernel_rfl
theorem zs23 : (Try.prog.info? 23).map (fun i => (i.zero, i.size)) = some (some ((.agg [.int .i64 0, .int .i64 0].toArray)), 2) := by kernel_rfl
end Go.Proofs.Ythlpimojojofbaa.O
