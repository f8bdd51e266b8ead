/- What the tables say of each type: its zero value, its cells, its bytes. -/
import Derived.Test.YthhbilkmdfdfiaaDoorOwn
namespace Go.Proofs.YthhbilkmdfdfiaaDoor.O
open Go.RowKit Go.Proofs.YthhbilkmdfdfiaaDoorW.PrintWords Go.Proofs.YthhbilkmdfdfiaaDoorW.PrintLast Go.Proofs.YthhbilkmdfdfiaaDoorW.PrintMore Go.Proofs.YthhbilkmdfdfiaaDoor.F
set_option maxRecDepth 100000
theorem zero3 : (Tryd.prog.info? 3).bind (·.zero) = some (.int .i64 0) := by kernel_rfl
theorem size3 : (Tryd.prog.info? 3).map (·.size) = some 1 := by kernel_rfl
theorem inf3 : (Tryd.prog.info? 3).map (fun i => (i.zero, i.size, i.bytes)) = some (some (.int .i64 0), 1, 8) := by kernel_rfl
theorem zs3 : (Tryd.prog.info? 3).map (fun i => (i.zero, i.size)) = some (some (.int .i64 0), 1) := by kernel_rfl
theorem zero5 : (Tryd.prog.info? 5).bind (·.zero) = some (.int .u8 0) := by kernel_rfl
theorem size5 : (Tryd.prog.info? 5).map (·.size) = some 1 := by kernel_rfl
theorem inf5 : (Tryd.prog.info? 5).map (fun i => (i.zero, i.size, i.bytes)) = some (some (.int .u8 0), 1, 1) := by kernel_rfl
theorem zs5 : (Tryd.prog.info? 5).map (fun i => (i.zero, i.size)) = some (some (.int .u8 0), 1) := by kernel_rfl
theorem zero22 : (Tryd.prog.info? 22).bind (·.zero) = some (.int .u32 0) := by kernel_rfl
theorem size22 : (Tryd.prog.info? 22).map (·.size) = some 1 := by kernel_rfl
theorem inf22 : (Tryd.prog.info? 22).map (fun i => (i.zero, i.size, i.bytes)) = some (some (.int .u32 0), 1, 4) := by kernel_rfl
theorem zs22 : (Tryd.prog.info? 22).map (fun i => (i.zero, i.size)) = some (some (.int .u32 0), 1) := by kernel_rfl
theorem zero51 : (Tryd.prog.info? 51).bind (·.zero) = some (.int .u64 0) := by kernel_rfl
theorem size51 : (Tryd.prog.info? 51).map (·.size) = some 1 := by kernel_rfl
theorem inf51 : (Tryd.prog.info? 51).map (fun i => (i.zero, i.size, i.bytes)) = some (some (.int .u64 0), 1, 8) := by kernel_rfl
theorem zs51 : (Tryd.prog.info? 51).map (fun i => (i.zero, i.size)) = some (some (.int .u64 0), 1) := by kernel_rfl
theorem zero30 : (Tryd.prog.info? 30).bind (·.zero) = some (.int .u64 0) := by kernel_rfl
theorem size30 : (Tryd.prog.info? 30).map (·.size) = some 1 := by kernel_rfl
theorem inf30 : (Tryd.prog.info? 30).map (fun i => (i.zero, i.size, i.bytes)) = some (some (.int .u64 0), 1, 8) := by kernel_rfl
theorem zs30 : (Tryd.prog.info? 30).map (fun i => (i.zero, i.size)) = some (some (.int .u64 0), 1) := by kernel_rfl
theorem zero4 : (Tryd.prog.info? 4).bind (·.zero) = some (.bool false) := by kernel_rfl
theorem size4 : (Tryd.prog.info? 4).map (·.size) = some 1 := by kernel_rfl
theorem inf4 : (Tryd.prog.info? 4).map (fun i => (i.zero, i.size, i.bytes)) = some (some (.bool false), 1, 1) := by kernel_rfl
theorem zs4 : (Tryd.prog.info? 4).map (fun i => (i.zero, i.size)) = some (some (.bool false), 1) := by kernel_rfl
theorem zero38 : (Tryd.prog.info? 38).bind (·.zero) = some (.int .i64 0) := by kernel_rfl
theorem size38 : (Tryd.prog.info? 38).map (·.size) = some 1 := by kernel_rfl
theorem inf38 : (Tryd.prog.info? 38).map (fun i => (i.zero, i.size, i.bytes)) = some (some (.int .i64 0), 1, 8) := by kernel_rfl
theorem zs38 : (Tryd.prog.info? 38).map (fun i => (i.zero, i.size)) = some (some (.int .i64 0), 1) := by kernel_rfl
theorem zero9 : (Tryd.prog.info? 9).bind (·.zero) = some (.string ⟨#[]⟩) := by kernel_rfl
theorem size9 : (Tryd.prog.info? 9).map (·.size) = some 1 := by kernel_rfl
theorem inf9 : (Tryd.prog.info? 9).map (fun i => (i.zero, i.size, i.bytes)) = some (some (.string ⟨#[]⟩), 1, 16) := by kernel_rfl
theorem zs9 : (Tryd.prog.info? 9).map (fun i => (i.zero, i.size)) = some (some (.string ⟨#[]⟩), 1) := by kernel_rfl
theorem zero23 : (Tryd.prog.info? 23).bind (·.zero) = some (.slice none 0 0) := by kernel_rfl
theorem size23 : (Tryd.prog.info? 23).map (·.size) = some 1 := by kernel_rfl
theorem inf23 : (Tryd.prog.info? 23).map (fun i => (i.zero, i.size, i.bytes)) = some (some (.slice none 0 0), 1, 24) := by kernel_rfl
theorem zs23 : (Tryd.prog.info? 23).map (fun i => (i.zero, i.size)) = some (some (.slice none 0 0), 1) := by kernel_rfl
theorem zero67 : (Tryd.prog.info? 67).bind (·.zero) = some (.slice none 0 0) := by kernel_rfl
theorem size67 : (Tryd.prog.info? 67).map (·.size) = some 1 := by kernel_rfl
theorem inf67 : (Tryd.prog.info? 67).map (fun i => (i.zero, i.size, i.bytes)) = some (some (.slice none 0 0), 1, 24) := by kernel_rfl
theorem zs67 : (Tryd.prog.info? 67).map (fun i => (i.zero, i.size)) = some (some (.slice none 0 0), 1) := by kernel_rfl
theorem zero76 : (Tryd.prog.info? 76).bind (·.zero) = some (.slice none 0 0) := by kernel_rfl
theorem size76 : (Tryd.prog.info? 76).map (·.size) = some 1 := by kernel_rfl
theorem inf76 : (Tryd.prog.info? 76).map (fun i => (i.zero, i.size, i.bytes)) = some (some (.slice none 0 0), 1, 24) := by kernel_rfl
theorem zs76 : (Tryd.prog.info? 76).map (fun i => (i.zero, i.size)) = some (some (.slice none 0 0), 1) := by kernel_rfl
theorem zero95 : (Tryd.prog.info? 95).bind (·.zero) = some (.slice none 0 0) := by kernel_rfl
theorem size95 : (Tryd.prog.info? 95).map (·.size) = some 1 := by kernel_rfl
theorem inf95 : (Tryd.prog.info? 95).map (fun i => (i.zero, i.size, i.bytes)) = some (some (.slice none 0 0), 1, 24) := by kernel_rfl
theorem zs95 : (Tryd.prog.info? 95).map (fun i => (i.zero, i.size)) = some (some (.slice none 0 0), 1) := by kernel_rfl
theorem zero71 : (Tryd.prog.info? 71).bind (·.zero) = some (.slice none 0 0) := by kernel_rfl
theorem size71 : (Tryd.prog.info? 71).map (·.size) = some 1 := by kernel_rfl
theorem inf71 : (Tryd.prog.info? 71).map (fun i => (i.zero, i.size, i.bytes)) = some (some (.slice none 0 0), 1, 24) := by kernel_rfl
theorem zs71 : (Tryd.prog.info? 71).map (fun i => (i.zero, i.size)) = some (some (.slice none 0 0), 1) := by kernel_rfl
theorem zero92 : (Tryd.prog.info? 92).bind (·.zero) = some (.slice none 0 0) := by kernel_rfl
theorem size92 : (Tryd.prog.info? 92).map (·.size) = some 1 := by kernel_rfl
theorem inf92 : (Tryd.prog.info? 92).map (fun i => (i.zero, i.size, i.bytes)) = some (some (.slice none 0 0), 1, 24) := by kernel_rfl
theorem zs92 : (Tryd.prog.info? 92).map (fun i => (i.zero, i.size)) = some (some (.slice none 0 0), 1) := by kernel_rfl
theorem zero50 : (Tryd.prog.info? 50).bind (·.zero) = some ((.agg (nums .u8 (zs 64)).toArray)) := by kernel_rfl
theorem size50 : (Tryd.prog.info? 50).map (·.size) = some 64 := by kernel_rfl
theorem inf50 : (Tryd.prog.info? 50).map (fun i => (i.zero, i.size, i.bytes)) = some (some ((.agg (nums .u8 (zs 64)).toArray)), 64, 64) := by kernel_rfl
theorem zs50 : (Tryd.prog.info? 50).map (fun i => (i.zero, i.size)) = some (some ((.agg (nums .u8 (zs 64)).toArray)), 64) := by kernel_rfl
theorem zero49 : (Tryd.prog.info? 49).bind (·.zero) = some ((.agg (nums .u8 (zs 64)).toArray)) := by kernel_rfl
theorem size49 : (Tryd.prog.info? 49).map (·.size) = some 64 := by kernel_rfl
theorem inf49 : (Tryd.prog.info? 49).map (fun i => (i.zero, i.size, i.bytes)) = some (some ((.agg (nums .u8 (zs 64)).toArray)), 64, 64) := by kernel_rfl
theorem zs49 : (Tryd.prog.info? 49).map (fun i => (i.zero, i.size)) = some (some ((.agg (nums .u8 (zs 64)).toArray)), 64) := by kernel_rfl
theorem zero84 : (Tryd.prog.info? 84).bind (·.zero) = some ((.agg (nums .u8 (zs 11)).toArray)) := by kernel_rfl
theorem size84 : (Tryd.prog.info? 84).map (·.size) = some 11 := by kernel_rfl
theorem inf84 : (Tryd.prog.info? 84).map (fun i => (i.zero, i.size, i.bytes)) = some (some ((.agg (nums .u8 (zs 11)).toArray)), 11, 11) := by kernel_rfl
theorem zs84 : (Tryd.prog.info? 84).map (fun i => (i.zero, i.size)) = some (some ((.agg (nums .u8 (zs 11)).toArray)), 11) := by kernel_rfl
theorem zero87 : (Tryd.prog.info? 87).bind (·.zero) = some ((.agg (nums .u8 (zs 23)).toArray)) := by kernel_rfl
theorem size87 : (Tryd.prog.info? 87).map (·.size) = some 23 := by kernel_rfl
theorem inf87 : (Tryd.prog.info? 87).map (fun i => (i.zero, i.size, i.bytes)) = some (some ((.agg (nums .u8 (zs 23)).toArray)), 23, 23) := by kernel_rfl
theorem zs87 : (Tryd.prog.info? 87).map (fun i => (i.zero, i.size)) = some (some ((.agg (nums .u8 (zs 23)).toArray)), 23) := by kernel_rfl
theorem zero29 : (Tryd.prog.info? 29).bind (·.zero) = some ((.agg (nums .u8 (zs 4)).toArray)) := by kernel_rfl
theorem size29 : (Tryd.prog.info? 29).map (·.size) = some 4 := by kernel_rfl
theorem inf29 : (Tryd.prog.info? 29).map (fun i => (i.zero, i.size, i.bytes)) = some (some ((.agg (nums .u8 (zs 4)).toArray)), 4, 4) := by kernel_rfl
theorem zs29 : (Tryd.prog.info? 29).map (fun i => (i.zero, i.size)) = some (some ((.agg (nums .u8 (zs 4)).toArray)), 4) := by kernel_rfl
theorem zero52 : (Tryd.prog.info? 52).bind (·.zero) = some ((.agg (nums .i64 (zs 4)).toArray)) := by kernel_rfl
theorem size52 : (Tryd.prog.info? 52).map (·.size) = some 4 := by kernel_rfl
theorem inf52 : (Tryd.prog.info? 52).map (fun i => (i.zero, i.size, i.bytes)) = some (some ((.agg (nums .i64 (zs 4)).toArray)), 4, 32) := by kernel_rfl
theorem zs52 : (Tryd.prog.info? 52).map (fun i => (i.zero, i.size)) = some (some ((.agg (nums .i64 (zs 4)).toArray)), 4) := by kernel_rfl
theorem zero82 : (Tryd.prog.info? 82).bind (·.zero) = some ((.agg (nums .u32 (zs 32)).toArray)) := by kernel_rfl
theorem size82 : (Tryd.prog.info? 82).map (·.size) = some 32 := by kernel_rfl
theorem inf82 : (Tryd.prog.info? 82).map (fun i => (i.zero, i.size, i.bytes)) = some (some ((.agg (nums .u32 (zs 32)).toArray)), 32, 128) := by kernel_rfl
theorem zs82 : (Tryd.prog.info? 82).map (fun i => (i.zero, i.size)) = some (some ((.agg (nums .u32 (zs 32)).toArray)), 32) := by kernel_rfl
theorem zero32 : (Tryd.prog.info? 32).bind (·.zero) = some ((.agg [.slice none 0 0, .slice none 0 0].toArray)) := by kernel_rfl
theorem size32 : (Tryd.prog.info? 32).map (·.size) = some 2 := by kernel_rfl
theorem inf32 : (Tryd.prog.info? 32).map (fun i => (i.zero, i.size, i.bytes)) = some (some ((.agg [.slice none 0 0, .slice none 0 0].toArray)), 2, 48) := by kernel_rfl
theorem zs32 : (Tryd.prog.info? 32).map (fun i => (i.zero, i.size)) = some (some ((.agg [.slice none 0 0, .slice none 0 0].toArray)), 2) := by kernel_rfl
theorem zero37 : (Tryd.prog.info? 37).bind (·.zero) = some ((.agg [.int .i64 0, .int .u32 0, .slice none 0 0].toArray)) := by kernel_rfl
theorem size37 : (Tryd.prog.info? 37).map (·.size) = some 3 := by kernel_rfl
theorem inf37 : (Tryd.prog.info? 37).map (fun i => (i.zero, i.size, i.bytes)) = some (some ((.agg [.int .i64 0, .int .u32 0, .slice none 0 0].toArray)), 3, 40) := by kernel_rfl
theorem zs37 : (Tryd.prog.info? 37).map (fun i => (i.zero, i.size)) = some (some ((.agg [.int .i64 0, .int .u32 0, .slice none 0 0].toArray)), 3) := by kernel_rfl
theorem zero99 : (Tryd.prog.info? 99).bind (·.zero) = some ((.agg [.int .i64 0, .int .i64 0, .int .i64 0, .int .i64 0].toArray)) := by kernel_rfl
theorem size99 : (Tryd.prog.info? 99).map (·.size) = some 4 := by kernel_rfl
theorem inf99 : (Tryd.prog.info? 99).map (fun i => (i.zero, i.size, i.bytes)) = some (some ((.agg [.int .i64 0, .int .i64 0, .int .i64 0, .int .i64 0].toArray)), 4, 32) := by kernel_rfl
theorem zs99 : (Tryd.prog.info? 99).map (fun i => (i.zero, i.size)) = some (some ((.agg [.int .i64 0, .int .i64 0, .int .i64 0, .int .i64 0].toArray)), 4) := by kernel_rfl
theorem zero54 : (Tryd.prog.info? 54).bind (·.zero) = some ((.agg [.int .u64 0, .int .i64 0, .int .i64 0, .int .i64 0, .int .i64 0, .int .i64 0, .int .i64 0].toArray)) := by kernel_rfl
theorem size54 : (Tryd.prog.info? 54).map (·.size) = some 7 := by kernel_rfl
theorem inf54 : (Tryd.prog.info? 54).map (fun i => (i.zero, i.size, i.bytes)) = some (some ((.agg [.int .u64 0, .int .i64 0, .int .i64 0, .int .i64 0, .int .i64 0, .int .i64 0, .int .i64 0].toArray)), 7, 56) := by kernel_rfl
theorem zs54 : (Tryd.prog.info? 54).map (fun i => (i.zero, i.size)) = some (some ((.agg [.int .u64 0, .int .i64 0, .int .i64 0, .int .i64 0, .int .i64 0, .int .i64 0, .int .i64 0].toArray)), 7) := by kernel_rfl
theorem zero101 : (Tryd.prog.info? 101).bind (·.zero) = some ((.agg [.int .i64 0, .int .i64 0, .slice none 0 0].toArray)) := by kernel_rfl
theorem size101 : (Tryd.prog.info? 101).map (·.size) = some 3 := by kernel_rfl
theorem inf101 : (Tryd.prog.info? 101).map (fun i => (i.zero, i.size, i.bytes)) = some (some ((.agg [.int .i64 0, .int .i64 0, .slice none 0 0].toArray)), 3, 40) := by kernel_rfl
theorem zs101 : (Tryd.prog.info? 101).map (fun i => (i.zero, i.size)) = some (some ((.agg [.int .i64 0, .int .i64 0, .slice none 0 0].toArray)), 3) := by kernel_rfl
theorem zero120 : (Tryd.prog.info? 120).bind (·.zero) = some ((.agg [.int .i64 0, .int .i64 0].toArray)) := by kernel_rfl
theorem size120 : (Tryd.prog.info? 120).map (·.size) = some 2 := by kernel_rfl
theorem inf120 : (Tryd.prog.info? 120).map (fun i => (i.zero, i.size, i.bytes)) = some (some ((.agg [.int .i64 0, .int .i64 0].toArray)), 2, 16) := by kernel_rfl
theorem zs120 : (Tryd.prog.info? 120).map (fun i => (i.zero, i.size)) = some (some ((.agg [.int .i64 0, .int .i64 0].toArray)), 2) := by kernel_rfl
end Go.Proofs.YthhbilkmdfdfiaaDoor.O
