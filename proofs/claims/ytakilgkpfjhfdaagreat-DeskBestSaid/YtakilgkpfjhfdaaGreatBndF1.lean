/- The statements' walks, and what they stand on, joined into few texts: part 1. Conditions stand in each statement. -/
import Derived.Test.YtakilgkpfjhfdaaGreatBndF0
set_option linter.all false
namespace Go.Proofs.YtakilgkpfjhfdaaGreat
open Go Go.Sl
def ti2 : TI := ⟨.int .i64, 1, 8, .int .i64 0⟩
def ti3 : TI := ⟨.int .i64, 1, 8, .int .i64 0⟩
def ti4 : TI := ⟨.bool, 1, 1, .bool false⟩
def ti5 : TI := ⟨.int .u8, 1, 1, .int .u8 0⟩
def ti6 : TI := ⟨.int .u8, 1, 1, .int .u8 0⟩
def ti7 : TI := ⟨.struct #[⟨"x", 2, 0, false, "", "runtime", 0⟩, ⟨"y", 3, 1, false, "", "runtime", 8⟩, ⟨"signed", 4, 2, false, "", "runtime", 16⟩, ⟨"code", 6, 3, false, "", "runtime", 17⟩], 4, 24, .agg #[.int .i64 0, .int .i64 0, .bool false, .int .u8 0]⟩
def ti8 : TI := ⟨.struct #[⟨"x", 2, 0, false, "", "runtime", 0⟩, ⟨"y", 3, 1, false, "", "runtime", 8⟩, ⟨"signed", 4, 2, false, "", "runtime", 16⟩, ⟨"code", 6, 3, false, "", "runtime", 17⟩], 4, 24, .agg #[.int .i64 0, .int .i64 0, .bool false, .int .u8 0]⟩
def ti9 : TI := ⟨.string, 1, 16, .string ⟨#[]⟩⟩
def ti10 : TI := ⟨.string, 1, 16, .string ⟨#[]⟩⟩
def ti11 : TI := ⟨.string, 1, 16, .string ⟨#[]⟩⟩
def ti12 : TI := ⟨.int .u64, 1, 8, .int .u64 0⟩
def ti13 : TI := ⟨.struct #[⟨"msg", 9, 0, false, "", "runtime", 0⟩, ⟨"addr", 12, 1, false, "", "runtime", 16⟩], 2, 24, .agg #[.string ⟨#[]⟩, .int .u64 0]⟩
def ti14 : TI := ⟨.struct #[⟨"msg", 9, 0, false, "", "runtime", 0⟩, ⟨"addr", 12, 1, false, "", "runtime", 16⟩], 2, 24, .agg #[.string ⟨#[]⟩, .int .u64 0]⟩
def ti15 : TI := ⟨.pointer 294, 1, 8, .pointer none⟩
def ti16 : TI := ⟨.pointer 297, 1, 8, .pointer none⟩
def ti17 : TI := ⟨.pointer 305, 1, 8, .pointer none⟩
def ti18 : TI := ⟨.struct #[⟨"typ", 17, 0, false, "", "internal/runtime/maps", 0⟩], 1, 8, .agg #[.pointer none]⟩
def ti19 : TI := ⟨.struct #[⟨"typ", 17, 0, false, "", "internal/runtime/maps", 0⟩], 1, 8, .agg #[.pointer none]⟩
def ti21 : TI := ⟨.int .i32, 1, 4, .int .i32 0⟩
def ti22 : TI := ⟨.slice 3, 1, 24, .slice none 0 0⟩
def ti23 : TI := ⟨.array 6 2, 6, 48, .agg #[.int .i64 0, .int .i64 0, .int .i64 0, .int .i64 0, .int .i64 0, .int .i64 0]⟩
def ti24 : TI := ⟨.struct #[⟨"Kind", 3, 0, false, "", "", 0⟩, ⟨"F", 23, 1, false, "", "", 8⟩], 7, 56, .agg #[.int .i64 0, .int .i64 0, .int .i64 0, .int .i64 0, .int .i64 0, .int .i64 0, .int .i64 0]⟩
def ti25 : TI := ⟨.struct #[⟨"Kind", 3, 0, false, "", "", 0⟩, ⟨"F", 23, 1, false, "", "", 8⟩], 7, 56, .agg #[.int .i64 0, .int .i64 0, .int .i64 0, .int .i64 0, .int .i64 0, .int .i64 0, .int .i64 0]⟩
def ti27 : TI := ⟨.slice 25, 1, 24, .slice none 0 0⟩
def ti28 : TI := ⟨.int .i64, 1, 8, .int .i64 0⟩
def ti29 : TI := ⟨.slice 28, 1, 24, .slice none 0 0⟩
def ti30 : TI := ⟨.pointer 95, 1, 8, .pointer none⟩
def ti32 : TI := ⟨.slice 79, 1, 24, .slice none 0 0⟩
def ti33 : TI := ⟨.slice 82, 1, 24, .slice none 0 0⟩
def ti34 : TI := ⟨.struct #[⟨"Bonds", 32, 0, false, "", "", 0⟩, ⟨"Parties", 33, 1, false, "", "", 24⟩, ⟨"Look", 2, 2, false, "", "", 48⟩, ⟨"Beat", 2, 3, false, "", "", 56⟩], 4, 64, .agg #[.slice none 0 0, .slice none 0 0, .int .i64 0, .int .i64 0]⟩
def ti35 : TI := ⟨.struct #[⟨"Bonds", 32, 0, false, "", "", 0⟩, ⟨"Parties", 33, 1, false, "", "", 24⟩, ⟨"Look", 2, 2, false, "", "", 48⟩, ⟨"Beat", 2, 3, false, "", "", 56⟩], 4, 64, .agg #[.slice none 0 0, .slice none 0 0, .int .i64 0, .int .i64 0]⟩
def ti37 : TI := ⟨.slice 45, 1, 24, .slice none 0 0⟩
def ti44 : TI := ⟨.struct #[⟨"To", 3, 0, false, "", "", 0⟩, ⟨"Msg", 25, 1, false, "", "", 8⟩], 8, 64, .agg #[.int .i64 0, .int .i64 0, .int .i64 0, .int .i64 0, .int .i64 0, .int .i64 0, .int .i64 0, .int .i64 0]⟩
def ti45 : TI := ⟨.struct #[⟨"To", 3, 0, false, "", "", 0⟩, ⟨"Msg", 25, 1, false, "", "", 8⟩], 8, 64, .agg #[.int .i64 0, .int .i64 0, .int .i64 0, .int .i64 0, .int .i64 0, .int .i64 0, .int .i64 0, .int .i64 0]⟩
def ti47 : TI := ⟨.slice 52, 1, 24, .slice none 0 0⟩
def ti48 : TI := ⟨.pointer 106, 1, 8, .pointer none⟩
def ti51 : TI := ⟨.struct #[⟨"ID", 2, 0, false, "", "", 0⟩, ⟨"Seq", 2, 1, false, "", "", 8⟩, ⟨"Owner", 3, 2, false, "", "", 16⟩, ⟨"Side", 3, 3, false, "", "", 24⟩, ⟨"Price", 2, 4, false, "", "", 32⟩, ⟨"Left", 2, 5, false, "", "", 40⟩], 6, 48, .agg #[.int .i64 0, .int .i64 0, .int .i64 0, .int .i64 0, .int .i64 0, .int .i64 0]⟩
def ti52 : TI := ⟨.struct #[⟨"ID", 2, 0, false, "", "", 0⟩, ⟨"Seq", 2, 1, false, "", "", 8⟩, ⟨"Owner", 3, 2, false, "", "", 16⟩, ⟨"Side", 3, 3, false, "", "", 24⟩, ⟨"Price", 2, 4, false, "", "", 32⟩, ⟨"Left", 2, 5, false, "", "", 40⟩], 6, 48, .agg #[.int .i64 0, .int .i64 0, .int .i64 0, .int .i64 0, .int .i64 0, .int .i64 0]⟩
def ti57 : TI := ⟨.slice 103, 1, 24, .slice none 0 0⟩
def ti60 : TI := ⟨.slice 63, 1, 24, .slice none 0 0⟩
def ti62 : TI := ⟨.struct #[⟨"Kind", 3, 0, false, "", "", 0⟩, ⟨"Who", 3, 1, false, "", "", 8⟩, ⟨"N", 2, 2, false, "", "", 16⟩, ⟨"Msg", 25, 3, false, "", "", 24⟩], 10, 80, .agg #[.int .i64 0, .int .i64 0, .int .i64 0, .int .i64 0, .int .i64 0, .int .i64 0, .int .i64 0, .int .i64 0, .int .i64 0, .int .i64 0]⟩
def ti63 : TI := ⟨.struct #[⟨"Kind", 3, 0, false, "", "", 0⟩, ⟨"Who", 3, 1, false, "", "", 8⟩, ⟨"N", 2, 2, false, "", "", 16⟩, ⟨"Msg", 25, 3, false, "", "", 24⟩], 10, 80, .agg #[.int .i64 0, .int .i64 0, .int .i64 0, .int .i64 0, .int .i64 0, .int .i64 0, .int .i64 0, .int .i64 0, .int .i64 0, .int .i64 0]⟩
def ti64 : TI := ⟨.slice 68, 1, 24, .slice none 0 0⟩
def ti66 : TI := ⟨.int .u64, 1, 8, .int .u64 0⟩
def ti67 : TI := ⟨.struct #[⟨"ID", 2, 0, false, "", "", 0⟩, ⟨"Client", 3, 1, false, "", "", 8⟩, ⟨"Bond", 3, 2, false, "", "", 16⟩, ⟨"Side", 3, 3, false, "", "", 24⟩, ⟨"Qty", 2, 4, false, "", "", 32⟩, ⟨"Dealers", 66, 5, false, "", "", 40⟩, ⟨"Ends", 2, 6, false, "", "", 48⟩, ⟨"Until", 2, 7, false, "", "", 56⟩, ⟨"State", 3, 8, false, "", "", 64⟩, ⟨"Hit", 2, 9, false, "", "", 72⟩], 10, 80, .agg #[.int .i64 0, .int .i64 0, .int .i64 0, .int .i64 0, .int .i64 0, .int .u64 0, .int .i64 0, .int .i64 0, .int .i64 0, .int .i64 0]⟩
def ti68 : TI := ⟨.struct #[⟨"ID", 2, 0, false, "", "", 0⟩, ⟨"Client", 3, 1, false, "", "", 8⟩, ⟨"Bond", 3, 2, false, "", "", 16⟩, ⟨"Side", 3, 3, false, "", "", 24⟩, ⟨"Qty", 2, 4, false, "", "", 32⟩, ⟨"Dealers", 66, 5, false, "", "", 40⟩, ⟨"Ends", 2, 6, false, "", "", 48⟩, ⟨"Until", 2, 7, false, "", "", 56⟩, ⟨"State", 3, 8, false, "", "", 64⟩, ⟨"Hit", 2, 9, false, "", "", 72⟩], 10, 80, .agg #[.int .i64 0, .int .i64 0, .int .i64 0, .int .i64 0, .int .i64 0, .int .u64 0, .int .i64 0, .int .i64 0, .int .i64 0, .int .i64 0]⟩
def ti74 : TI := ⟨.slice 2, 1, 24, .slice none 0 0⟩
def ti75 : TI := ⟨.pointer 127, 1, 8, .pointer none⟩
def ti78 : TI := ⟨.struct #[⟨"Tick", 2, 0, false, "", "", 0⟩, ⟨"Lot", 2, 1, false, "", "", 8⟩, ⟨"Min", 2, 2, false, "", "", 16⟩, ⟨"Max", 2, 3, false, "", "", 24⟩, ⟨"Low", 2, 4, false, "", "", 32⟩, ⟨"High", 2, 5, false, "", "", 40⟩, ⟨"Halted", 4, 6, false, "", "", 48⟩], 7, 56, .agg #[.int .i64 0, .int .i64 0, .int .i64 0, .int .i64 0, .int .i64 0, .int .i64 0, .bool false]⟩
def ti79 : TI := ⟨.struct #[⟨"Tick", 2, 0, false, "", "", 0⟩, ⟨"Lot", 2, 1, false, "", "", 8⟩, ⟨"Min", 2, 2, false, "", "", 16⟩, ⟨"Max", 2, 3, false, "", "", 24⟩, ⟨"Low", 2, 4, false, "", "", 32⟩, ⟨"High", 2, 5, false, "", "", 40⟩, ⟨"Halted", 4, 6, false, "", "", 48⟩], 7, 56, .agg #[.int .i64 0, .int .i64 0, .int .i64 0, .int .i64 0, .int .i64 0, .int .i64 0, .bool false]⟩
def ti81 : TI := ⟨.struct #[⟨"Role", 3, 0, false, "", "", 0⟩, ⟨"Asks", 66, 1, false, "", "", 8⟩, ⟨"Cap", 2, 2, false, "", "", 16⟩], 3, 24, .agg #[.int .i64 0, .int .u64 0, .int .i64 0]⟩
def ti82 : TI := ⟨.struct #[⟨"Role", 3, 0, false, "", "", 0⟩, ⟨"Asks", 66, 1, false, "", "", 8⟩, ⟨"Cap", 2, 2, false, "", "", 16⟩], 3, 24, .agg #[.int .i64 0, .int .u64 0, .int .i64 0]⟩
def ti83 : TI := ⟨.pointer 129, 1, 8, .pointer none⟩
def ti85 : TI := ⟨.pointer 131, 1, 8, .pointer none⟩
def ti87 : TI := ⟨.pointer 133, 1, 8, .pointer none⟩
def ti89 : TI := ⟨.pointer 136, 1, 8, .pointer none⟩
def ti91 : TI := ⟨.pointer 138, 1, 8, .pointer none⟩
def ti93 : TI := ⟨.slice 48, 1, 24, .slice none 0 0⟩
def ti94 : TI := ⟨.struct #[⟨"rules", 35, 0, false, "", "consols/desk", 0⟩, ⟨"now", 2, 4, false, "", "consols/desk", 64⟩, ⟨"books", 93, 5, false, "", "consols/desk", 72⟩, ⟨"firm", 75, 6, false, "", "consols/desk", 96⟩, ⟨"quotes", 83, 7, false, "", "consols/desk", 104⟩, ⟨"asks", 85, 8, false, "", "consols/desk", 112⟩, ⟨"due", 87, 9, false, "", "consols/desk", 120⟩, ⟨"pos", 89, 10, false, "", "consols/desk", 128⟩, ⟨"blot", 91, 11, false, "", "consols/desk", 136⟩, ⟨"order", 2, 12, false, "", "consols/desk", 144⟩, ⟨"seq", 2, 13, false, "", "consols/desk", 152⟩, ⟨"quote", 2, 14, false, "", "consols/desk", 160⟩, ⟨"ask", 2, 15, false, "", "consols/desk", 168⟩], 16, 176, .agg #[.slice none 0 0, .slice none 0 0, .int .i64 0, .int .i64 0, .int .i64 0, .slice none 0 0, .pointer none, .pointer none, .pointer none, .pointer none, .pointer none, .pointer none, .int .i64 0, .int .i64 0, .int .i64 0, .int .i64 0]⟩
def ti95 : TI := ⟨.struct #[⟨"rules", 35, 0, false, "", "consols/desk", 0⟩, ⟨"now", 2, 4, false, "", "consols/desk", 64⟩, ⟨"books", 93, 5, false, "", "consols/desk", 72⟩, ⟨"firm", 75, 6, false, "", "consols/desk", 96⟩, ⟨"quotes", 83, 7, false, "", "consols/desk", 104⟩, ⟨"asks", 85, 8, false, "", "consols/desk", 112⟩, ⟨"due", 87, 9, false, "", "consols/desk", 120⟩, ⟨"pos", 89, 10, false, "", "consols/desk", 128⟩, ⟨"blot", 91, 11, false, "", "consols/desk", 136⟩, ⟨"order", 2, 12, false, "", "consols/desk", 144⟩, ⟨"seq", 2, 13, false, "", "consols/desk", 152⟩, ⟨"quote", 2, 14, false, "", "consols/desk", 160⟩, ⟨"ask", 2, 15, false, "", "consols/desk", 168⟩], 16, 176, .agg #[.slice none 0 0, .slice none 0 0, .int .i64 0, .int .i64 0, .int .i64 0, .slice none 0 0, .pointer none, .pointer none, .pointer none, .pointer none, .pointer none, .pointer none, .int .i64 0, .int .i64 0, .int .i64 0, .int .i64 0]⟩
def ti97 : TI := ⟨.pointer 99, 1, 8, .pointer none⟩
def ti98 : TI := ⟨.struct #[⟨"who", 3, 0, false, "", "consols/desk", 0⟩, ⟨"id", 2, 1, false, "", "consols/desk", 8⟩, ⟨"l", 37, 2, false, "", "consols/desk", 16⟩], 3, 40, .agg #[.int .i64 0, .int .i64 0, .slice none 0 0]⟩
def ti99 : TI := ⟨.struct #[⟨"who", 3, 0, false, "", "consols/desk", 0⟩, ⟨"id", 2, 1, false, "", "consols/desk", 8⟩, ⟨"l", 37, 2, false, "", "consols/desk", 16⟩], 3, 40, .agg #[.int .i64 0, .int .i64 0, .slice none 0 0]⟩
def ti102 : TI := ⟨.struct #[⟨"ID", 2, 0, false, "", "", 0⟩, ⟨"Bond", 3, 1, false, "", "", 8⟩, ⟨"Buyer", 3, 2, false, "", "", 16⟩, ⟨"Seller", 3, 3, false, "", "", 24⟩, ⟨"Price", 2, 4, false, "", "", 32⟩, ⟨"Qty", 2, 5, false, "", "", 40⟩, ⟨"Ask", 2, 6, false, "", "", 48⟩, ⟨"Tick", 2, 7, false, "", "", 56⟩], 8, 64, .agg #[.int .i64 0, .int .i64 0, .int .i64 0, .int .i64 0, .int .i64 0, .int .i64 0, .int .i64 0, .int .i64 0]⟩
def ti103 : TI := ⟨.struct #[⟨"ID", 2, 0, false, "", "", 0⟩, ⟨"Bond", 3, 1, false, "", "", 8⟩, ⟨"Buyer", 3, 2, false, "", "", 16⟩, ⟨"Seller", 3, 3, false, "", "", 24⟩, ⟨"Price", 2, 4, false, "", "", 32⟩, ⟨"Qty", 2, 5, false, "", "", 40⟩, ⟨"Ask", 2, 6, false, "", "", 48⟩, ⟨"Tick", 2, 7, false, "", "", 56⟩], 8, 64, .agg #[.int .i64 0, .int .i64 0, .int .i64 0, .int .i64 0, .int .i64 0, .int .i64 0, .int .i64 0, .int .i64 0]⟩
def ti105 : TI := ⟨.struct #[⟨"l", 47, 0, false, "", "consols/book", 0⟩], 1, 24, .agg #[.slice none 0 0]⟩
def ti106 : TI := ⟨.struct #[⟨"l", 47, 0, false, "", "consols/book", 0⟩], 1, 24, .agg #[.slice none 0 0]⟩
def ti112 : TI := ⟨.slice 115, 1, 24, .slice none 0 0⟩
def ti114 : TI := ⟨.struct #[⟨"ID", 2, 0, false, "", "", 0⟩, ⟨"Ask", 2, 1, false, "", "", 8⟩, ⟨"Dealer", 3, 2, false, "", "", 16⟩, ⟨"Price", 2, 3, false, "", "", 24⟩, ⟨"Expires", 2, 4, false, "", "", 32⟩, ⟨"Live", 4, 5, false, "", "", 40⟩], 6, 48, .agg #[.int .i64 0, .int .i64 0, .int .i64 0, .int .i64 0, .int .i64 0, .bool false]⟩
def ti115 : TI := ⟨.struct #[⟨"ID", 2, 0, false, "", "", 0⟩, ⟨"Ask", 2, 1, false, "", "", 8⟩, ⟨"Dealer", 3, 2, false, "", "", 16⟩, ⟨"Price", 2, 3, false, "", "", 24⟩, ⟨"Expires", 2, 4, false, "", "", 32⟩, ⟨"Live", 4, 5, false, "", "", 40⟩], 6, 48, .agg #[.int .i64 0, .int .i64 0, .int .i64 0, .int .i64 0, .int .i64 0, .bool false]⟩
def ti118 : TI := ⟨.slice 121, 1, 24, .slice none 0 0⟩
def ti120 : TI := ⟨.struct #[⟨"Tick", 2, 0, false, "", "", 0⟩, ⟨"Kind", 3, 1, false, "", "", 8⟩, ⟨"ID", 2, 2, false, "", "", 16⟩], 3, 24, .agg #[.int .i64 0, .int .i64 0, .int .i64 0]⟩
def ti121 : TI := ⟨.struct #[⟨"Tick", 2, 0, false, "", "", 0⟩, ⟨"Kind", 3, 1, false, "", "", 8⟩, ⟨"ID", 2, 2, false, "", "", 16⟩], 3, 24, .agg #[.int .i64 0, .int .i64 0, .int .i64 0]⟩
def ti126 : TI := ⟨.struct #[⟨"l", 33, 0, false, "", "consols/firm", 0⟩, ⟨"used", 74, 1, false, "", "consols/firm", 24⟩], 2, 48, .agg #[.slice none 0 0, .slice none 0 0]⟩
def ti127 : TI := ⟨.struct #[⟨"l", 33, 0, false, "", "consols/firm", 0⟩, ⟨"used", 74, 1, false, "", "consols/firm", 24⟩], 2, 48, .agg #[.slice none 0 0, .slice none 0 0]⟩
def ti128 : TI := ⟨.struct #[⟨"l", 112, 0, false, "", "consols/quote", 0⟩], 1, 24, .agg #[.slice none 0 0]⟩
def ti129 : TI := ⟨.struct #[⟨"l", 112, 0, false, "", "consols/quote", 0⟩], 1, 24, .agg #[.slice none 0 0]⟩
def ti130 : TI := ⟨.struct #[⟨"l", 64, 0, false, "", "consols/ask", 0⟩], 1, 24, .agg #[.slice none 0 0]⟩
def ti131 : TI := ⟨.struct #[⟨"l", 64, 0, false, "", "consols/ask", 0⟩], 1, 24, .agg #[.slice none 0 0]⟩
def ti132 : TI := ⟨.struct #[⟨"l", 118, 0, false, "", "consols/due", 0⟩], 1, 24, .agg #[.slice none 0 0]⟩
def ti133 : TI := ⟨.struct #[⟨"l", 118, 0, false, "", "consols/due", 0⟩], 1, 24, .agg #[.slice none 0 0]⟩
def ti134 : TI := ⟨.slice 74, 1, 24, .slice none 0 0⟩
def ti135 : TI := ⟨.struct #[⟨"bonds", 134, 0, false, "", "consols/pos", 0⟩, ⟨"cash", 74, 1, false, "", "consols/pos", 24⟩], 2, 48, .agg #[.slice none 0 0, .slice none 0 0]⟩
def ti136 : TI := ⟨.struct #[⟨"bonds", 134, 0, false, "", "consols/pos", 0⟩, ⟨"cash", 74, 1, false, "", "consols/pos", 24⟩], 2, 48, .agg #[.slice none 0 0, .slice none 0 0]⟩
def ti137 : TI := ⟨.struct #[⟨"l", 57, 0, false, "", "consols/blot", 0⟩, ⟨"head", 66, 1, false, "", "consols/blot", 24⟩], 2, 32, .agg #[.slice none 0 0, .int .u64 0]⟩
def ti138 : TI := ⟨.struct #[⟨"l", 57, 0, false, "", "consols/blot", 0⟩, ⟨"head", 66, 1, false, "", "consols/blot", 24⟩], 2, 32, .agg #[.slice none 0 0, .int .u64 0]⟩
def ti145 : TI := ⟨.int .u64, 1, 8, .int .u64 0⟩
def ti188 : TI := ⟨.int .i64, 1, 8, .int .i64 0⟩
def ti195 : TI := ⟨.int .u32, 1, 4, .int .u32 0⟩
def ti204 : TI := ⟨.pointer 68, 1, 8, .pointer none⟩
def ti214 : TI := ⟨.pointer 115, 1, 8, .pointer none⟩
def ti229 : TI := ⟨.int .u64, 1, 8, .int .u64 0⟩
def ti232 : TI := ⟨.pointer 3, 1, 8, .pointer none⟩
def ti235 : TI := ⟨.slice 242, 1, 24, .slice none 0 0⟩
def ti236 : TI := ⟨.slice 240, 1, 24, .slice none 0 0⟩
def ti239 : TI := ⟨.struct #[⟨"ID", 2, 0, false, "", "", 0⟩, ⟨"Owner", 3, 1, false, "", "", 8⟩, ⟨"Left", 2, 2, false, "", "", 16⟩], 3, 24, .agg #[.int .i64 0, .int .i64 0, .int .i64 0]⟩
def ti240 : TI := ⟨.struct #[⟨"ID", 2, 0, false, "", "", 0⟩, ⟨"Owner", 3, 1, false, "", "", 8⟩, ⟨"Left", 2, 2, false, "", "", 16⟩], 3, 24, .agg #[.int .i64 0, .int .i64 0, .int .i64 0]⟩
def ti241 : TI := ⟨.struct #[⟨"Maker", 2, 0, false, "", "", 0⟩, ⟨"Taker", 2, 1, false, "", "", 8⟩, ⟨"MakerParty", 3, 2, false, "", "", 16⟩, ⟨"TakerParty", 3, 3, false, "", "", 24⟩, ⟨"Price", 2, 4, false, "", "", 32⟩, ⟨"Qty", 2, 5, false, "", "", 40⟩, ⟨"Left", 2, 6, false, "", "", 48⟩], 7, 56, .agg #[.int .i64 0, .int .i64 0, .int .i64 0, .int .i64 0, .int .i64 0, .int .i64 0, .int .i64 0]⟩
def ti242 : TI := ⟨.struct #[⟨"Maker", 2, 0, false, "", "", 0⟩, ⟨"Taker", 2, 1, false, "", "", 8⟩, ⟨"MakerParty", 3, 2, false, "", "", 16⟩, ⟨"TakerParty", 3, 3, false, "", "", 24⟩, ⟨"Price", 2, 4, false, "", "", 32⟩, ⟨"Qty", 2, 5, false, "", "", 40⟩, ⟨"Left", 2, 6, false, "", "", 48⟩], 7, 56, .agg #[.int .i64 0, .int .i64 0, .int .i64 0, .int .i64 0, .int .i64 0, .int .i64 0, .int .i64 0]⟩
def ti249 : TI := ⟨.struct #[⟨"Hi", 66, 0, false, "", "", 0⟩, ⟨"Lo", 66, 1, false, "", "", 8⟩], 2, 16, .agg #[.int .u64 0, .int .u64 0]⟩
def ti250 : TI := ⟨.struct #[⟨"Hi", 66, 0, false, "", "", 0⟩, ⟨"Lo", 66, 1, false, "", "", 8⟩], 2, 16, .agg #[.int .u64 0, .int .u64 0]⟩
def ti260 : TI := ⟨.slice 5, 1, 24, .slice none 0 0⟩
def ti263 : TI := ⟨.pointer 229, 1, 8, .pointer none⟩
def ti270 : TI := ⟨.pointer 52, 1, 8, .pointer none⟩
def ti273 : TI := ⟨.slice 276, 1, 24, .slice none 0 0⟩
def ti275 : TI := ⟨.struct #[⟨"Price", 2, 0, false, "", "", 0⟩, ⟨"Qty", 2, 1, false, "", "", 8⟩], 2, 16, .agg #[.int .i64 0, .int .i64 0]⟩
def ti276 : TI := ⟨.struct #[⟨"Price", 2, 0, false, "", "", 0⟩, ⟨"Qty", 2, 1, false, "", "", 8⟩], 2, 16, .agg #[.int .i64 0, .int .i64 0]⟩
def ti293 : TI := ⟨.struct #[⟨"_interface", 17, 0, false, "", "runtime", 0⟩, ⟨"concrete", 17, 1, false, "", "runtime", 8⟩, ⟨"asserted", 17, 2, false, "", "runtime", 16⟩, ⟨"missingMethod", 9, 3, false, "", "runtime", 24⟩], 4, 40, .agg #[.pointer none, .pointer none, .pointer none, .string ⟨#[]⟩]⟩
def ti294 : TI := ⟨.struct #[⟨"_interface", 17, 0, false, "", "runtime", 0⟩, ⟨"concrete", 17, 1, false, "", "runtime", 8⟩, ⟨"asserted", 17, 2, false, "", "runtime", 16⟩, ⟨"missingMethod", 9, 3, false, "", "runtime", 24⟩], 4, 40, .agg #[.pointer none, .pointer none, .pointer none, .string ⟨#[]⟩]⟩
def ti298 : TI := ⟨.int .u8, 1, 1, .int .u8 0⟩
def ti299 : TI := ⟨.int .u8, 1, 1, .int .u8 0⟩
def ti301 : TI := ⟨.pointer 5, 1, 8, .pointer none⟩
def ti302 : TI := ⟨.int .i32, 1, 4, .int .i32 0⟩
def ti303 : TI := ⟨.int .i32, 1, 4, .int .i32 0⟩
def ti304 : TI := ⟨.struct #[⟨"Size_", 12, 0, false, "", "", 0⟩, ⟨"PtrBytes", 12, 1, false, "", "", 8⟩, ⟨"Hash", 195, 2, false, "", "", 16⟩, ⟨"TFlag", 298, 3, false, "", "", 20⟩, ⟨"Align_", 5, 4, false, "", "", 21⟩, ⟨"FieldAlign_", 5, 5, false, "", "", 22⟩, ⟨"Kind_", 299, 6, false, "", "", 23⟩, ⟨"Equal", 300, 7, false, "", "", 24⟩, ⟨"GCData", 301, 8, false, "", "", 32⟩, ⟨"Str", 302, 9, false, "", "", 40⟩, ⟨"PtrToThis", 303, 10, false, "", "", 44⟩], 11, 48, .agg #[.int .u64 0, .int .u64 0, .int .u32 0, .int .u8 0, .int .u8 0, .int .u8 0, .int .u8 0, .nilFunc, .pointer none, .int .i32 0, .int .i32 0]⟩
def ti305 : TI := ⟨.struct #[⟨"Size_", 12, 0, false, "", "", 0⟩, ⟨"PtrBytes", 12, 1, false, "", "", 8⟩, ⟨"Hash", 195, 2, false, "", "", 16⟩, ⟨"TFlag", 298, 3, false, "", "", 20⟩, ⟨"Align_", 5, 4, false, "", "", 21⟩, ⟨"FieldAlign_", 5, 5, false, "", "", 22⟩, ⟨"Kind_", 299, 6, false, "", "", 23⟩, ⟨"Equal", 300, 7, false, "", "", 24⟩, ⟨"GCData", 301, 8, false, "", "", 32⟩, ⟨"Str", 302, 9, false, "", "", 40⟩, ⟨"PtrToThis", 303, 10, false, "", "", 44⟩], 11, 48, .agg #[.int .u64 0, .int .u64 0, .int .u32 0, .int .u8 0, .int .u8 0, .int .u8 0, .int .u8 0, .nilFunc, .pointer none, .int .i32 0, .int .i32 0]⟩
def TT : Tab := [(2, ti2), (3, ti3), (4, ti4), (5, ti5), (6, ti6), (7, ti7), (8, ti8), (9, ti9), (10, ti10), (11, ti11), (12, ti12), (13, ti13), (14, ti14), (15, ti15), (16, ti16), (17, ti17), (18, ti18), (19, ti19), (21, ti21), (22, ti22), (23, ti23), (24, ti24), (25, ti25), (27, ti27), (28, ti28), (29, ti29), (30, ti30), (32, ti32), (33, ti33), (34, ti34), (35, ti35), (37, ti37), (44, ti44), (45, ti45), (47, ti47), (48, ti48), (51, ti51), (52, ti52), (57, ti57), (60, ti60), (62, ti62), (63, ti63), (64, ti64), (66, ti66), (67, ti67), (68, ti68), (74, ti74), (75, ti75), (78, ti78), (79, ti79), (81, ti81), (82, ti82), (83, ti83), (85, ti85), (87, ti87), (89, ti89), (91, ti91), (93, ti93), (94, ti94), (95, ti95), (97, ti97), (98, ti98), (99, ti99), (102, ti102), (103, ti103), (105, ti105), (106, ti106), (112, ti112), (114, ti114), (115, ti115), (118, ti118), (120, ti120), (121, ti121), (126, ti126), (127, ti127), (128, ti128), (129, ti129), (130, ti130), (131, ti131), (132, ti132), (133, ti133), (134, ti134), (135, ti135), (136, ti136), (137, ti137), (138, ti138), (145, ti145), (188, ti188), (195, ti195), (204, ti204), (214, ti214), (229, ti229), (232, ti232), (235, ti235), (236, ti236), (239, ti239), (240, ti240), (241, ti241), (242, ti242), (249, ti249), (250, ti250), (260, ti260), (263, ti263), (270, ti270), (273, ti273), (275, ti275), (276, ti276), (293, ti293), (294, ti294), (298, ti298), (299, ti299), (301, ti301), (302, ti302), (303, ti303), (304, ti304), (305, ti305)]
theorem tg2 : za2 Tryz.prog 2 ti2 := za5 Tryz.underlying2 (by kernel_rfl)
theorem tg3 : za2 Tryz.prog 3 ti3 := za5 Tryz.underlying3 (by kernel_rfl)
theorem tg4 : za2 Tryz.prog 4 ti4 := za5 Tryz.underlying4 (by kernel_rfl)
theorem tg5 : za2 Tryz.prog 5 ti5 := za5 Tryz.underlying5 (by kernel_rfl)
theorem tg6 : za2 Tryz.prog 6 ti6 := za5 Tryz.underlying6 (by kernel_rfl)
theorem tg7 : za2 Tryz.prog 7 ti7 := za5 Tryz.underlying7 (by kernel_rfl)
theorem tg8 : za2 Tryz.prog 8 ti8 := za5 Tryz.underlying8 (by kernel_rfl)
theorem tg9 : za2 Tryz.prog 9 ti9 := za5 Tryz.underlying9 (by kernel_rfl)
theorem tg10 : za2 Tryz.prog 10 ti10 := za5 Tryz.underlying10 (by kernel_rfl)
theorem tg11 : za2 Tryz.prog 11 ti11 := za5 Tryz.underlying11 (by kernel_rfl)
theorem tg12 : za2 Tryz.prog 12 ti12 := za5 Tryz.underlying12 (by kernel_rfl)
theorem tg13 : za2 Tryz.prog 13 ti13 := za5 Tryz.underlying13 (by kernel_rfl)
theorem tg14 : za2 Tryz.prog 14 ti14 := za5 Tryz.underlying14 (by kernel_rfl)
theorem tg15 : za2 Tryz.prog 15 ti15 := za5 Tryz.underlying15 (by kernel_rfl)
theorem tg16 : za2 Tryz.prog 16 ti16 := za5 Tryz.underlying16 (by kernel_rfl)
theorem tg17 : za2 Tryz.prog 17 ti17 := za5 Tryz.underlying17 (by kernel_rfl)
theorem tg18 : za2 Tryz.prog 18 ti18 := za5 Tryz.underlying18 (by kernel_rfl)
theorem tg19 : za2 Tryz.prog 19 ti19 := za5 Tryz.underlying19 (by kernel_rfl)
theorem tg21 : za2 Tryz.prog 21 ti21 := za5 Tryz.underlying21 (by kernel_rfl)
theorem tg22 : za2 Tryz.prog 22 ti22 := za5 Tryz.underlying22 (by kernel_rfl)
theorem tg23 : za2 Tryz.prog 23 ti23 := za5 Tryz.underlying23 (by kernel_rfl)
theorem tg24 : za2 Tryz.prog 24 ti24 := za5 Tryz.underlying24 (by kernel_rfl)
theorem tg25 : za2 Tryz.prog 25 ti25 := za5 Tryz.underlying25 (by kernel_rfl)
theorem tg27 : za2 Tryz.prog 27 ti27 := za5 Tryz.underlying27 (by kernel_rfl)
theorem tg28 : za2 Tryz.prog 28 ti28 := za5 Tryz.underlying28 (by kernel_rfl)
theorem tg29 : za2 Tryz.prog 29 ti29 := za5 Tryz.underlying29 (by kernel_rfl)
theorem tg30 : za2 Tryz.prog 30 ti30 := za5 Tryz.underlying30 (by kernel_rfl)
theorem tg32 : za2 Tryz.prog 32 ti32 := za5 Tryz.underlying32 (by kernel_rfl)
theorem tg33 : za2 Tryz.prog 33 ti33 := za5 Tryz.underlying33 (by kernel_rfl)
theorem tg34 : za2 Tryz.prog 34 ti34 := za5 Tryz.underlying34 (by kernel_rfl)
theorem tg35 : za2 Tryz.prog 35 ti35 := za5 Tryz.underlying35 (by kernel_rfl)
theorem tg37 : za2 Tryz.prog 37 ti37 := za5 Tryz.underlying37 (by kernel_rfl)
theorem tg44 : za2 Tryz.prog 44 ti44 := za5 Tryz.underlying44 (by kernel_rfl)
theorem tg45 : za2 Tryz.prog 45 ti45 := za5 Tryz.underlying45 (by kernel_rfl)
theorem tg47 : za2 Tryz.prog 47 ti47 := za5 Tryz.underlying47 (by kernel_rfl)
theorem tg48 : za2 Tryz.prog 48 ti48 := za5 Tryz.underlying48 (by kernel_rfl)
theorem tg51 : za2 Tryz.prog 51 ti51 := za5 Tryz.underlying51 (by kernel_rfl)
theorem tg52 : za2 Tryz.prog 52 ti52 := za5 Tryz.underlying52 (by kernel_rfl)
theorem tg57 : za2 Tryz.prog 57 ti57 := za5 Tryz.underlying57 (by kernel_rfl)
theorem tg60 : za2 Tryz.prog 60 ti60 := za5 Tryz.underlying60 (by kernel_rfl)
theorem tg62 : za2 Tryz.prog 62 ti62 := za5 Tryz.underlying62 (by kernel_rfl)
theorem tg63 : za2 Tryz.prog 63 ti63 := za5 Tryz.underlying63 (by kernel_rfl)
theorem tg64 : za2 Tryz.prog 64 ti64 := za5 Tryz.underlying64 (by kernel_rfl)
theorem tg66 : za2 Tryz.prog 66 ti66 := za5 Tryz.underlying66 (by kernel_rfl)
theorem tg67 : za2 Tryz.prog 67 ti67 := za5 Tryz.underlying67 (by kernel_rfl)
theorem tg68 : za2 Tryz.prog 68 ti68 := za5 Tryz.underlying68 (by kernel_rfl)
theorem tg74 : za2 Tryz.prog 74 ti74 := za5 Tryz.underlying74 (by kernel_rfl)
theorem tg75 : za2 Tryz.prog 75 ti75 := za5 Tryz.underlying75 (by kernel_rfl)
theorem tg78 : za2 Tryz.prog 78 ti78 := za5 Tryz.underlying78 (by kernel_rfl)
theorem tg79 : za2 Tryz.prog 79 ti79 := za5 Tryz.underlying79 (by kernel_rfl)
theorem tg81 : za2 Tryz.prog 81 ti81 := za5 Tryz.underlying81 (by kernel_rfl)
theorem tg82 : za2 Tryz.prog 82 ti82 := za5 Tryz.underlying82 (by kernel_rfl)
theorem tg83 : za2 Tryz.prog 83 ti83 := za5 Tryz.underlying83 (by kernel_rfl)
theorem tg85 : za2 Tryz.prog 85 ti85 := za5 Tryz.underlying85 (by kernel_rfl)
theorem tg87 : za2 Tryz.prog 87 ti87 := za5 Tryz.underlying87 (by kernel_rfl)
theorem tg89 : za2 Tryz.prog 89 ti89 := za5 Tryz.underlying89 (by kernel_rfl)
theorem tg91 : za2 Tryz.prog 91 ti91 := za5 Tryz.underlying91 (by kernel_rfl)
theorem tg93 : za2 Tryz.prog 93 ti93 := za5 Tryz.underlying93 (by kernel_rfl)
theorem tg94 : za2 Tryz.prog 94 ti94 := za5 Tryz.underlying94 (by kernel_rfl)
theorem tg95 : za2 Tryz.prog 95 ti95 := za5 Tryz.underlying95 (by kernel_rfl)
theorem tg97 : za2 Tryz.prog 97 ti97 := za5 Tryz.underlying97 (by kernel_rfl)
theorem tg98 : za2 Tryz.prog 98 ti98 := za5 Tryz.underlying98 (by kernel_rfl)
theorem tg99 : za2 Tryz.prog 99 ti99 := za5 Tryz.underlying99 (by kernel_rfl)
theorem zpY : za2 Tryz.prog 102 ti102 := za5 Tryz.underlying102 (by kernel_rfl)
theorem zpZ : za2 Tryz.prog 103 ti103 := za5 Tryz.underlying103 (by kernel_rfl)
theorem zp0 : za2 Tryz.prog 105 ti105 := za5 Tryz.underlying105 (by kernel_rfl)
theorem zp1 : za2 Tryz.prog 106 ti106 := za5 Tryz.underlying106 (by kernel_rfl)
theorem zp2 : za2 Tryz.prog 112 ti112 := za5 Tryz.underlying112 (by kernel_rfl)
theorem zp3 : za2 Tryz.prog 114 ti114 := za5 Tryz.underlying114 (by kernel_rfl)
theorem zp4 : za2 Tryz.prog 115 ti115 := za5 Tryz.underlying115 (by kernel_rfl)
theorem zp5 : za2 Tryz.prog 118 ti118 := za5 Tryz.underlying118 (by kernel_rfl)
theorem zp6 : za2 Tryz.prog 120 ti120 := za5 Tryz.underlying120 (by kernel_rfl)
theorem zp7 : za2 Tryz.prog 121 ti121 := za5 Tryz.underlying121 (by kernel_rfl)
theorem zp8 : za2 Tryz.prog 126 ti126 := za5 Tryz.underlying126 (by kernel_rfl)
theorem zp9 : za2 Tryz.prog 127 ti127 := za5 Tryz.underlying127 (by kernel_rfl)
theorem zqa : za2 Tryz.prog 128 ti128 := za5 Tryz.underlying128 (by kernel_rfl)
theorem zqb : za2 Tryz.prog 129 ti129 := za5 Tryz.underlying129 (by kernel_rfl)
theorem zqc : za2 Tryz.prog 130 ti130 := za5 Tryz.underlying130 (by kernel_rfl)
theorem zqd : za2 Tryz.prog 131 ti131 := za5 Tryz.underlying131 (by kernel_rfl)
theorem zqe : za2 Tryz.prog 132 ti132 := za5 Tryz.underlying132 (by kernel_rfl)
theorem zqf : za2 Tryz.prog 133 ti133 := za5 Tryz.underlying133 (by kernel_rfl)
theorem zqg : za2 Tryz.prog 134 ti134 := za5 Tryz.underlying134 (by kernel_rfl)
theorem zqh : za2 Tryz.prog 135 ti135 := za5 Tryz.underlying135 (by kernel_rfl)
theorem zqi : za2 Tryz.prog 136 ti136 := za5 Tryz.underlying136 (by kernel_rfl)
theorem zqj : za2 Tryz.prog 137 ti137 := za5 Tryz.underlying137 (by kernel_rfl)
theorem zqk : za2 Tryz.prog 138 ti138 := za5 Tryz.underlying138 (by kernel_rfl)
theorem zql : za2 Tryz.prog 145 ti145 := za5 Tryz.underlying145 (by kernel_rfl)
theorem zqm : za2 Tryz.prog 188 ti188 := za5 Tryz.underlying188 (by kernel_rfl)
theorem zqn : za2 Tryz.prog 195 ti195 := za5 Tryz.underlying195 (by kernel_rfl)
theorem zqo : za2 Tryz.prog 204 ti204 := za5 Tryz.underlying204 (by kernel_rfl)
theorem zqp : za2 Tryz.prog 214 ti214 := za5 Tryz.underlying214 (by kernel_rfl)
theorem zqq : za2 Tryz.prog 229 ti229 := za5 Tryz.underlying229 (by kernel_rfl)
theorem zqr : za2 Tryz.prog 232 ti232 := za5 Tryz.underlying232 (by kernel_rfl)
theorem zqs : za2 Tryz.prog 235 ti235 := za5 Tryz.underlying235 (by kernel_rfl)
theorem zqt : za2 Tryz.prog 236 ti236 := za5 Tryz.underlying236 (by kernel_rfl)
theorem zqu : za2 Tryz.prog 239 ti239 := za5 Tryz.underlying239 (by kernel_rfl)
theorem zqv : za2 Tryz.prog 240 ti240 := za5 Tryz.underlying240 (by kernel_rfl)
theorem zqw : za2 Tryz.prog 241 ti241 := za5 Tryz.underlying241 (by kernel_rfl)
theorem zqx : za2 Tryz.prog 242 ti242 := za5 Tryz.underlying242 (by kernel_rfl)
theorem zqy : za2 Tryz.prog 249 ti249 := za5 Tryz.underlying249 (by kernel_rfl)
theorem zqz : za2 Tryz.prog 250 ti250 := za5 Tryz.underlying250 (by kernel_rfl)
theorem zqA : za2 Tryz.prog 260 ti260 := za5 Tryz.underlying260 (by kernel_rfl)
theorem zqB : za2 Tryz.prog 263 ti263 := za5 Tryz.underlying263 (by kernel_rfl)
theorem zqC : za2 Tryz.prog 270 ti270 := za5 Tryz.underlying270 (by kernel_rfl)
theorem zqD : za2 Tryz.prog 273 ti273 := za5 Tryz.underlying273 (by kernel_rfl)
theorem zqE : za2 Tryz.prog 275 ti275 := za5 Tryz.underlying275 (by kernel_rfl)
theorem zqF : za2 Tryz.prog 276 ti276 := za5 Tryz.underlying276 (by kernel_rfl)
theorem zqG : za2 Tryz.prog 293 ti293 := za5 Tryz.underlying293 (by kernel_rfl)
theorem zqH : za2 Tryz.prog 294 ti294 := za5 Tryz.underlying294 (by kernel_rfl)
theorem zqI : za2 Tryz.prog 298 ti298 := za5 Tryz.underlying298 (by kernel_rfl)
theorem zqJ : za2 Tryz.prog 299 ti299 := za5 Tryz.underlying299 (by kernel_rfl)
theorem zqK : za2 Tryz.prog 301 ti301 := za5 Tryz.underlying301 (by kernel_rfl)
theorem zqL : za2 Tryz.prog 302 ti302 := za5 Tryz.underlying302 (by kernel_rfl)
theorem zqM : za2 Tryz.prog 303 ti303 := za5 Tryz.underlying303 (by kernel_rfl)
theorem zqN : za2 Tryz.prog 304 ti304 := za5 Tryz.underlying304 (by kernel_rfl)
theorem zqO : za2 Tryz.prog 305 ti305 := za5 Tryz.underlying305 (by kernel_rfl)
theorem hT : zbB Tryz.prog TT :=
 zaH tg2 <| zaH tg3 <| zaH tg4 <| zaH tg5 <| zaH tg6 <| zaH tg7 <| zaH tg8 <| zaH tg9 <| zaH tg10 <| zaH tg11 <| zaH tg12 <| zaH tg13 <| zaH tg14 <| zaH tg15 <| zaH tg16 <| zaH tg17 <| zaH tg18 <| zaH tg19 <| zaH tg21 <| zaH tg22 <| zaH tg23 <| zaH tg24 <| zaH tg25 <| zaH tg27 <| zaH tg28 <| zaH tg29 <| zaH tg30 <| zaH tg32 <| zaH tg33 <| zaH tg34 <| zaH tg35 <| zaH tg37 <| zaH tg44 <| zaH tg45 <| zaH tg47 <| zaH tg48 <| zaH tg51 <| zaH tg52 <| zaH tg57 <| zaH tg60 <| zaH tg62 <| zaH tg63 <| zaH tg64 <| zaH tg66 <| zaH tg67 <| zaH tg68 <| zaH tg74 <| zaH tg75 <| zaH tg78 <| zaH tg79 <| zaH tg81 <| zaH tg82 <| zaH tg83 <| zaH tg85 <| zaH tg87 <| zaH tg89 <| zaH tg91 <| zaH tg93 <| zaH tg94 <| zaH tg95 <| zaH tg97 <| zaH tg98 <| zaH tg99 <| zaH zpY <| zaH zpZ <| zaH zp0 <| zaH zp1 <| zaH zp2 <| zaH zp3 <| zaH zp4 <| zaH zp5 <| zaH zp6 <| zaH zp7 <| zaH zp8 <| zaH zp9 <| zaH zqa <| zaH zqb <| zaH zqc <| zaH zqd <| zaH zqe <| zaH zqf <| zaH zqg <| zaH zqh <| zaH zqi <| zaH zqj <| zaH zqk <| zaH zql <| zaH zqm <| zaH zqn <| zaH zqo <| zaH zqp <| zaH zqq <| zaH zqr <| zaH zqs <| zaH zqt <| zaH zqu <| zaH zqv <| zaH zqw <| zaH zqx <| zaH zqy <| zaH zqz <| zaH zqA <| zaH zqB <| zaH zqC <| zaH zqD <| zaH zqE <| zaH zqF <| zaH zqG <| zaH zqH <| zaH zqI <| zaH zqJ <| zaH zqK <| zaH zqL <| zaH zqM <| zaH zqN <| zaH zqO <| zoC
theorem hmix : Tryz.prog.follows .mixedOrders = true := by kernel_rfl
end Go.Proofs.YtakilgkpfjhfdaaGreat
namespace Go.Proofs.YtakilgkpfjhfdaaGreat
open Go Go.Sl
attribute [local irreducible] AW ES Ld RetQ
set_option maxRecDepth 100000
def cmpI (x y : Int) : Int := if x < y then -1 else if y < x then 1 else 0
theorem zoL (W : World) (x : Int) : zaL Tryz.prog W 128 [.int .i64 x] [] (.bool false) := by
 refine zaL.of (fun h' hs => ?_)
 refine zan Tryz.func128 rfl rfl Tryz.results128 Tryz.ntmps128 rfl rfl ?_
 repeat' (first | apply zae | apply zaa | apply zaj | apply zad | apply zab hT; iterate 4 exact rfl)
 exact zch (J := []) rfl (by simp) (List.Perm.refl _)
theorem zoM (W : World) (x y : Int) : zaL Tryz.prog W 71 [.int .i64 x, .int .i64 y] [] (.int .i64 (cmpI x y)) := by
 refine zaL.of (fun h' hs => ?_)
 refine zan Tryz.func71 rfl rfl Tryz.results71 Tryz.ntmps71 rfl rfl ?_
 repeat' (first | apply zae | apply zaa | apply zaj | apply zah | apply zad | apply zab hT; iterate 4 exact rfl | (apply zac (hs := ((zoL W _).mono (by simp))); iterate 7 exact rfl) | apply zag; iterate 2 exact rfl | (apply zam; exact rfl; all_goals (intro hb; (try dsimp only at hb); (try simp only [hb]); (first | replace hb := odt hb | replace hb := odf hb ); (try omega))))
 ·exact zch (J := []) rfl (by simp [cmpI, hb]) (List.Perm.refl _)
 ·rename_i h1; exact zch (J := []) rfl (by simp [cmpI]; omega) (List.Perm.refl _)
 ·rename_i h1; exact zch (J := []) rfl (by simp [cmpI]; omega) (List.Perm.refl _)
theorem zg6 (W : World) (h : List zax) (A : Option Addr) (n c : Nat) (l : List za3) (hn : l.length = n) (hr : zaJ W h A n 7 (l.flatMap za3.enc)) (fn : FuncId) (cap : List Value) (p : za3 → Bool)
 (hf : ∀ x ∈ l, zaL Tryz.prog W fn ([.agg x.enc.toArray] ++ cap) h (.bool (p x))) (hb : n ≤ 4611686018427387903) :
 zaL Tryz.prog W 140 [.slice A n c, .func (.func fn) #[] cap.toArray] h (.int .i64 (za4 p l)) := by
 refine zaL.of (fun h' hs => ?_)
 have hr' := hr.mono hs
 refine zan Tryz.func140 rfl rfl Tryz.results140 Tryz.ntmps140 rfl rfl ?_
 refine zaU hr' rfl (fun hA => ?_)
 repeat' (first | apply zae | apply zaa | apply zaf | apply zad | apply zab hT; iterate 4 exact rfl)
 refine zbU (α := Nat) (E := fun k => [(0, .slice A n c), (1, .func (.func fn) #[] cap.toArray), (7, .int .i64 n), (8, .int .i64 k)]) (H := fun _ => h') (μ := fun k => n - k)
  (S := fun k => k ≤ n ∧ ∀ (j : Nat) y, j < k → l[j]? = some y → p y = false) 0 (J := []) ⟨Nat.zero_le _, fun j y hj => by omega⟩ ⟨rfl, rfl, rfl, rfl, trivial⟩ (List.Perm.refl _) ?_
 rintro k ⟨hk1, hk2⟩
 by_cases hlt : k < n
 ·obtain ⟨x, hx⟩ : ∃ x, l[k]? = some x := ⟨l[k]'(by omega), List.getElem?_eq_getElem (by omega)⟩
  have hx2 : l[(k : Int).toNat]? = some x := by simpa using hx
  have hfx := (hf x (List.mem_of_getElem? hx)).mono hs
  have hA' := hA (by omega)
  repeat' (first | apply zae | apply zaa | apply zaj | apply zah | apply zaf | apply zad | apply zab hT; iterate 4 exact rfl | (apply zaN hT; (iterate 4 exact rfl); (iterate 2 (first | omega ))) | apply zaS hT; (iterate 8 exact rfl); (iterate 2 omega); exact hA' | apply zal; (iterate 5 exact rfl); exact zaY hT rfl rfl hr' za3.enc_len rfl hx2 rfl | apply zac (hs := hfx); iterate 7 exact rfl | (apply zam; exact rfl; all_goals (intro hb; (try dsimp only at hb); (try simp only [hb]); (first | replace hb := odt hb | replace hb := odf hb | skip); (try omega))))
  ·exact zch (J := []) rfl (by rw [zdK hx hb hk2]) (List.Perm.refl _)
  ·have hpx := hb
   refine ⟨k + 1, [], by dsimp only; omega, ⟨by omega, fun j y hj hy => ?_⟩, ⟨rfl, rfl, rfl, rfl, trivial⟩, List.Perm.refl _⟩
   by_cases hjk : j < k
   ·exact hk2 j y hjk hy
   ·obtain rfl : j = k := by omega
    rw [hx] at hy; cases hy; exact hpx
 ·repeat' (first | apply zae | apply zaa | apply zaj | apply zas | apply zad | apply zab hT; iterate 4 exact rfl | (apply zam; exact rfl; all_goals (intro hb; (try dsimp only at hb); (try simp only [hb]); (first | replace hb := odt hb | replace hb := odf hb ); (try omega))))
  exact zch (J := []) rfl (by rw [zcc (fun (j : Nat) y hj => hk2 j y (by have := (List.getElem?_eq_some_iff.1 hj).1; omega) hj)]) (List.Perm.refl _)
theorem zfy (W : World) (h : List zax) (A : Option Addr) (n c : Nat) (l : List za3) (hn : l.length = n) (hr : zaJ W h A n 7 (l.flatMap za3.enc)) (fn : FuncId) (cap : List Value) (p : za3 → Bool)
 (hf : ∀ x ∈ l, zaL Tryz.prog W fn ([.agg x.enc.toArray] ++ cap) h (.bool (p x))) (hb : n ≤ 4611686018427387903) :
 zaL Tryz.prog W 92 [.slice A n c, .func (.func fn) #[] cap.toArray] h (.bool (decide (za4 p l ≥ 0))) := by
 refine zaL.of (fun h' hs => ?_)
 refine zan Tryz.func92 rfl rfl Tryz.results92 Tryz.ntmps92 rfl rfl ?_
 repeat' (first | apply zae | apply zaa | apply zaj | apply zad | apply zab hT; iterate 4 exact rfl | apply zac (hs := ((zg6 W h A n c l hn hr fn cap p hf hb).mono hs)); iterate 7 exact rfl)
 exact zch (J := []) rfl rfl (List.Perm.refl _)
theorem zkC (W : World) (h : List zax) (A : Option Addr) (n c : Nat) (cs : List Value) (hr : zaJ W h A n 7 cs) (hb : n * 56 ≤ 140737488355328) :
 zaB Tryz.prog W 31 [.slice A n c] h (fun v h' => ∃ A' c', v = .slice A' n c' ∧ h' = .own A' n c' 79 7 cs :: h) := by
 refine zaB.drop ?_
 refine zan Tryz.func31 rfl rfl Tryz.results31 Tryz.ntmps31 rfl rfl ?_
 refine zaU hr rfl (fun hA => ?_)
 cases A with
 | none =>
   have hn : n = 0 := by
    rcases Nat.eq_zero_or_pos n with h | h
    ·exact h
    ·have := hA h; simp at this
   subst hn
   have hcs : cs = [] := List.eq_nil_of_length_eq_zero (by simpa using hr.len)
   subst hcs
   refine zbV (fun w hw => ⟨_, hw.own_nil 79 7, ?_⟩)
   repeat' (first | apply zae | apply zaa | apply zaj | apply zad | apply zab hT; iterate 4 exact rfl | apply zak; iterate 2 exact rfl)
   apply ret1; exact rfl
   exact ⟨[], _, List.Perm.refl _, none, 0, rfl, rfl⟩
 | some ad =>
   repeat' (first | apply zae | apply zaa | apply zaj | apply zah | apply zad | apply zab hT; iterate 4 exact rfl | apply zao hT; (iterate 12 exact rfl); intro g1 | apply zbg hT; (iterate 10 exact rfl); exact sel0; exact hr.cons; omega; (show (0 + n) * 56 ≤ _; omega); intro A' c' | apply zag; iterate 2 exact rfl)
   apply ret1; exact rfl
   refine ⟨[], _, List.Perm.refl _, A', c', by rw [Nat.zero_add], ?_⟩
   show zax.own A' (0 + n) c' 79 7 ([] ++ cs) :: h = _
   simp
theorem zgf (W : World) (h : List zax) (A : Option Addr) (n c : Nat) (l : List zaV) (hn : l.length = n) (hr : zaJ W h A n 3 (l.flatMap zaV.enc)) (fn : FuncId) (cap : List Value) (p : zaV → Bool)
 (hf : ∀ x ∈ l, zaL Tryz.prog W fn ([.agg x.enc.toArray] ++ cap) h (.bool (p x))) (hb : n ≤ 4611686018427387903) :
 zaL Tryz.prog W 141 [.slice A n c, .func (.func fn) #[] cap.toArray] h (.int .i64 (za4 p l)) := by
 refine zaL.of (fun h' hs => ?_)
 have hr' := hr.mono hs
 refine zan Tryz.func141 rfl rfl Tryz.results141 Tryz.ntmps141 rfl rfl ?_
 refine zaU hr' rfl (fun hA => ?_)
 repeat' (first | apply zae | apply zaa | apply zaf | apply zad | apply zab hT; iterate 4 exact rfl)
 refine zbU (α := Nat) (E := fun k => [(0, .slice A n c), (1, .func (.func fn) #[] cap.toArray), (7, .int .i64 n), (8, .int .i64 k)]) (H := fun _ => h') (μ := fun k => n - k)
  (S := fun k => k ≤ n ∧ ∀ (j : Nat) y, j < k → l[j]? = some y → p y = false) 0 (J := []) ⟨Nat.zero_le _, fun j y hj => by omega⟩ ⟨rfl, rfl, rfl, rfl, trivial⟩ (List.Perm.refl _) ?_
 rintro k ⟨hk1, hk2⟩
 by_cases hlt : k < n
 ·obtain ⟨x, hx⟩ : ∃ x, l[k]? = some x := ⟨l[k]'(by omega), List.getElem?_eq_getElem (by omega)⟩
  have hx2 : l[(k : Int).toNat]? = some x := by simpa using hx
  have hfx := (hf x (List.mem_of_getElem? hx)).mono hs
  have hA' := hA (by omega)
  repeat' (first | apply zae | apply zaa | apply zaj | apply zah | apply zaf | apply zad | apply zab hT; iterate 4 exact rfl | (apply zaN hT; (iterate 4 exact rfl); (iterate 2 (first | omega ))) | apply zaS hT; (iterate 8 exact rfl); (iterate 2 omega); exact hA' | apply zal; (iterate 5 exact rfl); exact zaY hT rfl rfl hr' zaV.enc_len rfl hx2 rfl | apply zac (hs := hfx); iterate 7 exact rfl | (apply zam; exact rfl; all_goals (intro hb; (try dsimp only at hb); (try simp only [hb]); (first | replace hb := odt hb | replace hb := odf hb | skip); (try omega))))
  ·exact zch (J := []) rfl (by rw [zdK hx hb hk2]) (List.Perm.refl _)
  ·have hpx := hb
   refine ⟨k + 1, [], by dsimp only; omega, ⟨by omega, fun j y hj hy => ?_⟩, ⟨rfl, rfl, rfl, rfl, trivial⟩, List.Perm.refl _⟩
   by_cases hjk : j < k
   ·exact hk2 j y hjk hy
   ·obtain rfl : j = k := by omega
    rw [hx] at hy; cases hy; exact hpx
 ·repeat' (first | apply zae | apply zaa | apply zaj | apply zas | apply zad | apply zab hT; iterate 4 exact rfl | (apply zam; exact rfl; all_goals (intro hb; (try dsimp only at hb); (try simp only [hb]); (first | replace hb := odt hb | replace hb := odf hb ); (try omega))))
  exact zch (J := []) rfl (by rw [zcc (fun (j : Nat) y hj => hk2 j y (by have := (List.getElem?_eq_some_iff.1 hj).1; omega) hj)]) (List.Perm.refl _)
theorem ze4 (W : World) (h : List zax) (A : Option Addr) (n c : Nat) (l : List zaV) (hn : l.length = n) (hr : zaJ W h A n 3 (l.flatMap zaV.enc)) (fn : FuncId) (cap : List Value) (p : zaV → Bool)
 (hf : ∀ x ∈ l, zaL Tryz.prog W fn ([.agg x.enc.toArray] ++ cap) h (.bool (p x))) (hb : n ≤ 4611686018427387903) :
 zaL Tryz.prog W 93 [.slice A n c, .func (.func fn) #[] cap.toArray] h (.bool (decide (za4 p l ≥ 0))) := by
 refine zaL.of (fun h' hs => ?_)
 refine zan Tryz.func93 rfl rfl Tryz.results93 Tryz.ntmps93 rfl rfl ?_
 repeat' (first | apply zae | apply zaa | apply zaj | apply zad | apply zab hT; iterate 4 exact rfl | apply zac (hs := ((zgf W h A n c l hn hr fn cap p hf hb).mono hs)); iterate 7 exact rfl)
 exact zch (J := []) rfl rfl (List.Perm.refl _)
theorem zgg (W : World) (h : List zax) (A : Option Addr) (n c : Nat) (cs : List Value) (hr : zaJ W h A n 3 cs) (hb : n * 24 ≤ 140737488355328) :
 zaB Tryz.prog W 32 [.slice A n c] h (fun v h' => ∃ A' c', v = .slice A' n c' ∧ h' = .own A' n c' 82 3 cs :: h) := by
 refine zaB.drop ?_
 refine zan Tryz.func32 rfl rfl Tryz.results32 Tryz.ntmps32 rfl rfl ?_
 refine zaU hr rfl (fun hA => ?_)
 cases A with
 | none =>
   have hn : n = 0 := by
    rcases Nat.eq_zero_or_pos n with h | h
    ·exact h
    ·have := hA h; simp at this
   subst hn
   have hcs : cs = [] := List.eq_nil_of_length_eq_zero (by simpa using hr.len)
   subst hcs
   refine zbV (fun w hw => ⟨_, hw.own_nil 82 3, ?_⟩)
   repeat' (first | apply zae | apply zaa | apply zaj | apply zad | apply zab hT; iterate 4 exact rfl | apply zak; iterate 2 exact rfl)
   apply ret1; exact rfl
   exact ⟨[], _, List.Perm.refl _, none, 0, rfl, rfl⟩
 | some ad =>
   repeat' (first | apply zae | apply zaa | apply zaj | apply zah | apply zad | apply zab hT; iterate 4 exact rfl | apply zao hT; (iterate 12 exact rfl); intro g1 | apply zbg hT; (iterate 10 exact rfl); exact sel0; exact hr.cons; omega; (show (0 + n) * 24 ≤ _; omega); intro A' c' | apply zag; iterate 2 exact rfl)
   apply ret1; exact rfl
   refine ⟨[], _, List.Perm.refl _, A', c', by rw [Nat.zero_add], ?_⟩
   show zax.own A' (0 + n) c' 82 3 ([] ++ cs) :: h = _
   simp
end Go.Proofs.YtakilgkpfjhfdaaGreat
namespace Go.Proofs.YtakilgkpfjhfdaaGreat
open Go Go.Sl
attribute [local irreducible] AW ES EP Ld RetQ
set_option maxRecDepth 100000
theorem zjn (W : World) (n a b : Int) : zaL Tryz.prog W 139 [.int .i64 n, .int .i64 a, .int .i64 b] [] (.bool (inB n a b)) := by
 refine zaL.ofD (fun h' hs => ?_)
 refine zan Tryz.func139 rfl rfl Tryz.results139 Tryz.ntmps139 rfl rfl ?_
 repeat' (first | apply zae | apply zaa | apply zaj | apply zad | apply zab hT; iterate 4 exact rfl | apply zaq; iterate 3 exact rfl | (apply zav; exact rfl; all_goals (intro hb; (fail_if_success (change true = true at hb)); (fail_if_success (change false = false at hb)); (try dsimp only at hb); (try simp only [hb]); (first | replace hb := odt hb | replace hb := odf hb ); (try omega))))
 all_goals (apply ret1; exact rfl; exact ⟨by (first | simp_all [inB]; done | simp [inB]; omega), zar⟩)
theorem zlF (W : World) (n a b : Int) : zaL Tryz.prog W 86 [.int .i64 n, .int .i64 a, .int .i64 b] [] (.bool (inB n a b)) := by
 refine zaL.ofD (fun h' hs => ?_)
 refine zan Tryz.func86 rfl rfl Tryz.results86 Tryz.ntmps86 rfl rfl ?_
 repeat' (first | apply zae | apply zaa | apply zaj | apply zad | apply zab hT; iterate 4 exact rfl | apply zaq; iterate 3 exact rfl | (apply zav; exact rfl; all_goals (intro hb; (fail_if_success (change true = true at hb)); (fail_if_success (change false = false at hb)); (try dsimp only at hb); (try simp only [hb]); (first | replace hb := odt hb | replace hb := odf hb ); (try omega))))
 all_goals (apply ret1; exact rfl; exact ⟨by (first | simp_all [inB]; done | simp [inB]; omega), zar⟩)
theorem zoN (W : World) (b : za3) : zaL Tryz.prog W 88 [.agg b.enc.toArray] [] (.bool (zcT b)) := by
 refine zaL.ofD (fun h' hs => ?_)
 refine zan Tryz.func88 rfl rfl Tryz.results88 Tryz.ntmps88 rfl rfl ?_
 repeat' (first | apply zae | apply zaa | apply zaj | apply zad | apply zab hT; iterate 4 exact rfl | apply zaq; iterate 3 exact rfl | apply zaM [] [] hmix; decide +kernel | apply zlA; (iterate 5 exact rfl); (have z1 := zck ‹inB b.lot 1 1000000 = true›; have z2 := zck ‹inB b.max b.min 1000000 = true›; have z3 := zck ‹inB b.min 1 1000000 = true›; omega); (have z1 := zck ‹inB b.lot 1 1000000 = true›; omega) | (apply zaN hT; (iterate 4 exact rfl); (iterate 2 (have z1 := zck ‹inB b.lot 1 1000000 = true›; have z2 := zck ‹inB b.max b.min 1000000 = true›; have z3 := zck ‹inB b.min 1 1000000 = true›; have z4 := Int.emod_nonneg b.max (show b.lot ≠ 0 by omega); have z5 := Int.emod_lt_of_pos b.max (show 0 < b.lot by omega); omega))) | (apply zac (hs := ((zjn W _ _ _).mono (by simp))); iterate 7 exact rfl) | (apply zal; (iterate 5 exact rfl); first | (apply zaC hT; exact rfl; exact rfl; (repeat (first | exact mcs )); exact rfl; exact rfl) ) | apply zaK; (iterate 5 exact rfl); intro _ | (apply zav; exact rfl; all_goals (intro hb; (fail_if_success (change true = true at hb)); (fail_if_success (change false = false at hb)); (try dsimp only at hb); (try simp only [hb]); (first | skip); (try omega))))
 all_goals first
  | (apply ret1; exact rfl; exact ⟨by simp_all [zcT], zat zar⟩)
  | skip
theorem znk (W : World) (b : za3) : zaL Tryz.prog W 87 [.agg b.enc.toArray] [] (.bool (!zcT b)) := by
 refine zaL.ofD (fun h' hs => ?_)
 refine zan Tryz.func87 rfl rfl Tryz.results87 Tryz.ntmps87 rfl rfl ?_
 repeat' (first | apply zae | apply zaa | apply zaj | apply zad | apply zab hT; iterate 4 exact rfl | (apply zac (hs := ((zoN W b).mono (by simp))); iterate 7 exact rfl) | (apply zal; (iterate 5 exact rfl); first | (apply zaQ hT; exact rfl; exact rfl; (repeat (first | exact mcs )); exact rfl)) | apply zaK; (iterate 5 exact rfl); intro _)
 all_goals (apply ret1; exact rfl; exact ⟨rfl, by (repeat (first | exact zar | apply zat))⟩)
theorem ziv (W : World) (h : List zax) (A : Option Addr) (c : Nat) (l : List zaV) (hr : zaJ W h A l.length 3 (l.flatMap zaV.enc)) (hb : l.length ≤ 8) :
 zaL Tryz.prog W 89 [.slice A l.length c] h (.int .u64 (zc7 l l.length)) := by
 refine zaL.ofD (fun h' hs => ?_)
 have hr' := hr.mono hs
 refine zan Tryz.func89 rfl rfl Tryz.results89 Tryz.ntmps89 rfl rfl ?_
 refine zaU hr' rfl (fun hA => ?_)
 repeat' (first | apply zae | apply zaa | apply zaf | apply zad | apply zab hT; iterate 4 exact rfl)
 refine zbj (α := Nat) (E := fun k => [(3, .int .u64 (zc7 l k)), (6, .slice A l.length c), (7, .int .i64 l.length), (8, .int .i64 k)]) (H := fun _ => h') (μ := fun k => l.length - k)
  (S := fun k => k ≤ l.length) 0 (Nat.zero_le _) ⟨rfl, rfl, rfl, rfl, trivial⟩ (by (repeat (first | exact zar))) ?_
 intro k hk
 by_cases hlt : k < l.length
 ·obtain ⟨x, hx⟩ : ∃ x, l[k]? = some x := ⟨l[k]'(by omega), List.getElem?_eq_getElem (by omega)⟩
  have hx2 : l[(k : Int).toNat]? = some x := by simpa using hx
  have hA' := hA (by omega)
  have hd1 : decide ((k : Int) < (l.length : Int)) = true := by simp; omega
  have hst := zjm hx
  have hor := zpv (ziu l k) (show k < 64 by omega)
  repeat' (first | apply zae | apply zaa | apply zah | apply zaf | apply zad | apply zab hT; iterate 4 exact rfl | (apply zaN hT; (iterate 4 exact rfl); (iterate 2 (first | omega ))) | apply zaS hT; (iterate 8 exact rfl); (iterate 2 omega); exact hA' | (apply zal; (iterate 5 exact rfl); exact zaY hT rfl rfl (hr'.mono (by intro c hc; first | exact hc | exact mcm _ hc)) zaV.enc_len rfl hx2 rfl) | (apply zaF hT; (iterate 6 exact rfl); (repeat (first | exact sel0 )); (iterate 3 exact rfl); exact nle rfl) | apply zou; (iterate 5 exact rfl); omega | apply zcJ; iterate 6 exact rfl | (apply zal; (iterate 5 exact rfl); first | (apply zaC hT; exact rfl; exact rfl; (repeat (first | exact mcs )); exact rfl; exact rfl) ) | apply zaI hT; (iterate 5 exact rfl); intro _ | (apply zam; exact rfl; all_goals (intro hb; (try dsimp only at hb); (try simp only [hb]); (first | replace hb := odt hb | replace hb := odf hb ); (try omega))))
  all_goals first
   | (exfalso; omega)
   | exact zaR (k + 1) (by (try dsimp only); omega) (by (try dsimp only); omega) ⟨by (try dsimp only); rw [hst, if_pos ‹_›, ← hor]; rfl, rfl, rfl, rfl, trivial⟩ (by (repeat (first | exact zar | apply zat)))
   | exact zaR (k + 1) (by (try dsimp only); omega) (by (try dsimp only); omega) ⟨by (try dsimp only); rw [hst, if_neg ‹_›]; rfl, rfl, rfl, rfl, trivial⟩ (by (repeat (first | exact zar | apply zat)))
   | skip
 ·obtain rfl : k = l.length := by omega
  have hd1 : decide ((l.length : Int) < (l.length : Int)) = false := by simp
  repeat' (first | apply zae | apply zaa | apply zaj | apply zas | apply zad | apply zab hT; iterate 4 exact rfl | (apply zam; exact rfl; all_goals (intro hb; (try dsimp only at hb); (try simp only [hb]); (first | replace hb := odt hb | replace hb := odf hb ); (try omega))))
  all_goals first
   | (exfalso; omega)
   | (apply ret1; exact rfl; exact ⟨rfl, by (repeat (first | exact zar))⟩)
theorem ziw (W : World) (p : zaV) (all : Int) : zaL Tryz.prog W 91 [.agg p.enc.toArray, .int .u64 all] [] (.bool (zd5 p all)) := by
 refine zaL.ofD (fun h' hs => ?_)
 refine zan Tryz.func91 rfl rfl Tryz.results91 Tryz.ntmps91 rfl rfl ?_
 repeat' (first | apply zae | apply zaa | apply zaj | apply zah | apply zaf | apply zad | apply zab hT; iterate 4 exact rfl | apply zaq; iterate 3 exact rfl | apply zcJ; iterate 6 exact rfl | (apply zac (hs := ((zlF W _ _ _).mono (by simp))); iterate 7 exact rfl) | (apply zal; (iterate 5 exact rfl); first | (apply zaC hT; exact rfl; exact rfl; (repeat (first | exact mcs )); exact rfl; exact rfl) ) | apply zaK; (iterate 5 exact rfl); intro _ | (apply zav; exact rfl; all_goals (intro hb; (fail_if_success (change true = true at hb)); (fail_if_success (change false = false at hb)); (try dsimp only at hb); (try simp only [hb]); (first | replace hb := odt hb | replace hb := odf hb ); (try omega))) | (apply zam; exact rfl; all_goals (intro hb; (try dsimp only at hb); (try simp only [hb]); (first | replace hb := odt hb | replace hb := odf hb ); (try omega))))
 all_goals first
  | (apply ret1; exact rfl; exact ⟨by simp_all [zd5], by (repeat (first | exact zar | apply zat))⟩)
  | skip
theorem znl (W : World) (p : zaV) (all : Int) (g : Nat) : zaL Tryz.prog W 90 [.agg p.enc.toArray, .pointer (some ⟨g, 0, none⟩)] [.blk g 66 [.int .u64 all]] (.bool (!zd5 p all)) := by
 refine zaL.ofD (fun h' hs => ?_)
 have m0 := hs _ mem0
 refine zan Tryz.func90 rfl rfl Tryz.results90 Tryz.ntmps90 rfl rfl ?_
 repeat' (first | apply zae | apply zaa | apply zaj | apply zad | apply zab hT; iterate 4 exact rfl | (apply zac (hs := ((ziw W p all).mono (by simp))); iterate 7 exact rfl) | (apply zal; (iterate 5 exact rfl); first | (apply zaC hT; exact rfl; exact rfl; (repeat (first | exact m0 | apply mcm)); exact rfl; exact rfl) | (apply zaQ hT; exact rfl; exact rfl; (repeat (first | exact mcs )); exact rfl)) | apply zaK; (iterate 5 exact rfl); intro _)
 all_goals (apply ret1; exact rfl; exact ⟨rfl, by (repeat (first | exact zar | apply zat))⟩)
theorem zlG {α : Type} {q : α → Bool} {l : List α} : decide (za4 (fun x => !q x) l ≥ 0) = !(l.all q) := by
 by_cases h : l.all q = true
 ·rw [h]
  have : za4 (fun x => !q x) l < 0 := zcu.2 (fun x hx => by simp [List.all_eq_true.1 h x hx])
  simp; omega
 ·have : ¬ za4 (fun x => !q x) l < 0 := fun hn => h (List.all_eq_true.2 (fun x hx => by simpa using zcu.1 hn x hx))
  rw [decide_eq_true (by omega), Bool.eq_false_iff.2 h]; rfl
def ze5 (AB : Option Addr) (nb cB : Nat) (AP : Option Addr) (np cP : Nat) (look beat : Int) : Value := .agg #[.slice AB nb cB, .slice AP np cP, .int .i64 look, .int .i64 beat]
theorem zoO (W : World) (h : List zax) (AB : Option Addr) (cB : Nat) (bs : List za3) (AP : Option Addr) (cP : Nat) (ps : List zaV) (look beat : Int) (hrB : zaJ W h AB bs.length 7 (bs.flatMap za3.enc)) (hrP : zaJ W h AP ps.length 3 (ps.flatMap zaV.enc)) (hb : bs.length ≤ 1000000) (hp : ps.length ≤ 1000000) :
 zaL Tryz.prog W 57 [ze5 AB bs.length cB AP ps.length cP look beat] h (.bool (isR bs ps look beat)) := by
 refine zaL.ofD (fun h' hs => ?_)
 have hcb : ∀ k, (∀ c ∈ h', c ∈ k) → zaL Tryz.prog W 92 [.slice AB bs.length cB, .func (.func 87) #[] #[]] k (.bool (!bs.all zcT)) := fun k hk =>
  (zfy W k AB bs.length cB bs rfl ((hrB.mono hs).mono hk) 87 [] (fun x => !zcT x) (fun x _ => (znk W x).mono (by simp)) (by omega)).cast (by rw [zlG])
 have hcp : ∀ g k, (∀ c ∈ h', c ∈ k) → zax.blk g 66 [.int .u64 (zc7 ps ps.length)] ∈ k → zaL Tryz.prog W 93 [.slice AP ps.length cP, .func (.func 90) #[] #[.pointer (some ⟨g, 0, none⟩)]] k (.bool (!ps.all (fun p => zd5 p (zc7 ps ps.length)))) := fun g k hk hm =>
  (ze4 W k AP ps.length cP ps rfl ((hrP.mono hs).mono hk) 90 [.pointer (some ⟨g, 0, none⟩)] (fun x => !zd5 x (zc7 ps ps.length)) (fun x _ => (znl W x _ g).mono (by simpa using hm)) (by omega)).cast (by rw [zlG])
 have hdl := fun k hk (hl : ps.length ≤ 8) => ziv W k AP cP ps ((hrP.mono hs).mono hk) hl
 generalize ha : bs.all zcT = a at hcb
 generalize hbb : (ps.all fun p => zd5 p (zc7 ps ps.length)) = b at hcp
 refine zan Tryz.func57 rfl rfl Tryz.results57 Tryz.ntmps57 rfl rfl ?_
 repeat' (first | apply zae | apply zaa | apply zaj | apply zah | apply zad | apply zab hT; iterate 4 exact rfl | apply zaq; iterate 3 exact rfl | (apply zac (hs := ((zlF W _ _ _).mono (by simp))); iterate 7 exact rfl) | (apply zac (hs := (hdl _ (by (first | exact fun _ h => .tail _ h | exact fun _ h => .tail _ (.tail _ h) )) (by have := zck (show inB (ps.length : Int) 1 8 = true by simpa using ‹(!inB (ps.length : Int) 1 8) = false›); omega))); iterate 7 exact rfl) | (apply zaI hT; (iterate 5 exact rfl); first | (fail_if_success (have q := g4)); intro g4) | (apply zaF hT; (iterate 6 exact rfl); (repeat (first | exact sel0 )); (iterate 3 exact rfl); exact nle rfl) | (apply zac (hs := (hcb _ (by (first | exact fun _ h => .tail _ (.tail _ h) )))); iterate 7 exact rfl) | (apply zac (hs := (hcp g4 _ (by (first | exact fun _ h => .tail _ (.tail _ h) )) (by (repeat (first | exact mcs ))))); iterate 7 exact rfl) | (apply zal; (iterate 5 exact rfl); first | (apply zaC hT; exact rfl; exact rfl; (repeat (first | exact mcs | apply mcm)); exact rfl; exact rfl) ) | (apply zaK; (iterate 5 exact rfl); intro _) | (apply zak; iterate 2 exact rfl) | (apply zav; exact rfl; all_goals (intro hb; (fail_if_success (change true = true at hb)); (fail_if_success (change false = false at hb)); (try dsimp only at hb); (try simp only [hb]); (first | skip); (try omega))) | (apply zam; exact rfl; all_goals (intro hb; (try dsimp only at hb); (try simp only [hb]); (first | skip); (try omega))))
 all_goals first
  | (apply ret1; exact rfl; exact ⟨by unfold isR; rw [ha, hbb]; clear ha hbb hcb hcp hdl hrB hrP; simp_all, by (repeat (first | exact zar | apply zat))⟩)
  | skip
def zdO (p : Nat) (A : Option Addr) (c : Nat) (U : Option Addr) (u : Nat) (ps : List zaV) (used : List Int) (F : List zax) : List zax :=
 .blk p 127 [.slice A ps.length c, .slice U ps.length u] :: .own A ps.length c 82 3 (ps.flatMap zaV.enc) :: .own U ps.length u 2 1 (used.map (Value.int .i64)) :: F
theorem znm (W : World) (h : List zax) (AB : Option Addr) (cB : Nat) (bs : List za3) (AP : Option Addr) (cP : Nat) (ps : List zaV) (look beat : Int) (hrB : zaJ W h AB bs.length 7 (bs.flatMap za3.enc)) (hrP : zaJ W h AP ps.length 3 (ps.flatMap zaV.enc)) (hb : bs.length ≤ 1000000) (hp : ps.length ≤ 1000000) :
 zaB Tryz.prog W 30 [ze5 AB bs.length cB AP ps.length cP look beat] h
  (fun v h' => (isR bs ps look beat = false ∧ v = .pointer none ∧ h' = h) ∨ (isR bs ps look beat = true ∧ ∃ p A c U u, v = .pointer (some ⟨p, 0, none⟩) ∧ h' = zdO p A c U u ps (List.replicate ps.length 0) h)) := by
 refine zaB.dropTo ?_
 have hI := zoO W h AB cB bs AP cP ps look beat hrB hrP hb hp
 have hcl := fun k (hk : ∀ c ∈ h, c ∈ k) => zgg W k AP ps.length cP (ps.flatMap zaV.enc) (hrP.mono hk) (by omega)
 refine zan Tryz.func30 rfl rfl Tryz.results30 Tryz.ntmps30 rfl rfl ?_
 cases hR : isR bs ps look beat
 ·rw [hR] at hI
  repeat' (first | apply zae | apply zaa | apply zaj | apply zad | apply zab hT; iterate 4 exact rfl | (apply zac (hs := (hI.mono (by (first | exact fun _ h => .tail _ h )))); iterate 7 exact rfl) | (apply zal; (iterate 5 exact rfl); first | (apply zaQ hT; exact rfl; exact rfl; (repeat (first | exact mcs )); exact rfl)) | apply zaK; (iterate 5 exact rfl); intro _ | apply zak; iterate 2 exact rfl)
  all_goals (apply ret1; exact rfl; exact ⟨h, by (repeat (first | exact zar | apply zat)), .inl ⟨rfl, rfl, rfl⟩⟩)
 ·rw [hR] at hI
  repeat' (first | apply zae | apply zaa | apply zaj | apply zah | apply zad | apply zab hT; iterate 4 exact rfl | (apply zb8 [] [] (.step 0 <| .step 1 <| .step 3 <| .alt (.step 2 <| .step 4 <| .step 5 <| .step 6 <| .step 7 <| .step 8 <| .step 9 <| .nil) ((.step 4 <| .step 5 <| .alt (.step 2 <| .step 6 <| .step 7 <| .step 8 <| .step 9 <| .nil) ((.step 6 <| .step 2 <| .step 7 <| .step 8 <| .step 9 <| .nil))))) hmix; decide +kernel) | apply zcX | apply zeZ | apply zbN; exact rfl | (apply zac (hs := (hI.mono (by (first | exact fun _ h => .tail _ h | exact fun _ h => .tail _ (.tail _ h) )))); iterate 7 exact rfl) | (apply zaz (hs := (hcl _ (by (first | exact fun _ h => .tail _ h | exact fun _ h => .tail _ (.tail _ h) )))); (iterate 7 exact rfl); rintro _ _ ⟨A1, c1, rfl, rfl⟩) | apply zdM hT; (iterate 12 exact rfl); (iterate 1 exact rfl); omega; exact nle rfl; intro g12 | apply zaO hT (cs := [.slice A1 ps.length c1, .slice (some ⟨g12, 0, none⟩) ps.length ps.length]); iterate 4 exact rfl | apply zaK; (iterate 5 exact rfl); intro g14 | (apply zal; (iterate 5 exact rfl); first | (apply zaC hT; exact rfl; exact rfl; (repeat (first | exact mcs | apply mcm)); exact rfl; exact rfl) | (apply zaQ hT; exact rfl; exact rfl; (repeat (first | exact mcs )); exact rfl)) | apply zag; iterate 2 exact rfl)
  all_goals first
   | (apply ret1; exact rfl; exact ⟨zdO g14 A1 c1 (some ⟨g12, 0, none⟩) ps.length ps (List.replicate ps.length 0) h, by unfold zdO; rw [List.map_replicate]; (repeat (first | exact zar | (apply zay; · (repeat (first | exact sel0 | apply selS))) | apply zat)), .inr ⟨rfl, g14, A1, c1, some ⟨g12, 0, none⟩, ps.length, rfl, rfl⟩⟩)
   | skip
structure PRow where
 A : Option Addr
 c : Nat
 l : List Int
def PRow.ck (r : PRow) : zax := .own r.A r.l.length r.c 2 1 (r.l.map (Value.int .i64))
def PRow.hd (r : PRow) : Value := .slice r.A r.l.length r.c
def zcE (p : Nat) (AC : Option Addr) (cC : Nat) (AR : Option Addr) (cR : Nat) (cash : List Int) (rs : List PRow) (F : List zax) : List zax :=
 .blk p 136 [.slice AR rs.length cR, .slice AC cash.length cC] :: .own AC cash.length cC 2 1 (cash.map (Value.int .i64)) :: .own AR rs.length cR 74 1 (rs.map PRow.hd) :: (rs.map PRow.ck ++ F)
def zgh (np nb : Int) : Bool := decide (1 ≤ np) && decide (np ≤ 8) && (decide (1 ≤ nb) && decide (nb ≤ 4))
theorem zoP (W : World) (h : List zax) (np nb : Int) : zaB Tryz.prog W 36 [.int .i64 np, .int .i64 nb] h
 (fun v h' => (zgh np nb = false ∧ v = .pointer none ∧ h' = h) ∨ (zgh np nb = true ∧ ∃ p AC cC AR cR rs, v = .pointer (some ⟨p, 0, none⟩) ∧ h' = zcE p AC cC AR cR (List.replicate np.toNat 0) rs h ∧ rs.map PRow.l = List.replicate np.toNat (List.replicate nb.toNat 0))) := by
 refine zaB.dropTo ?_
 refine zan Tryz.func36 rfl rfl Tryz.results36 Tryz.ntmps36 rfl rfl ?_
 by_cases hin : (1 ≤ np ∧ np ≤ 8) ∧ (1 ≤ nb ∧ nb ≤ 4)
 rotate_left
 ·repeat' (first | apply zae | apply zaa | apply zaj | apply zad | apply zab hT; iterate 4 exact rfl | apply zaq; iterate 3 exact rfl | apply zak; iterate 2 exact rfl | (apply zav; exact rfl; all_goals (intro hb; (fail_if_success (change true = true at hb)); (fail_if_success (change false = false at hb)); (try dsimp only at hb); (try simp only [hb]); (first | replace hb := odt hb | replace hb := odf hb ); (try omega))) | (apply zam; exact rfl; all_goals (intro hb; (try dsimp only at hb); (try simp only [hb]); (first | replace hb := odt hb | replace hb := odf hb ); (try omega))))
  all_goals first
   | (exfalso; omega)
   | (apply ret1; exact rfl; exact ⟨h, by (repeat (first | exact zar)), .inl ⟨by unfold zgh; simp; omega, rfl, rfl⟩⟩)
   | skip
 obtain ⟨⟨n1, n2⟩, n3, n4⟩ := hin
 have hp : zgh np nb = true := by unfold zgh; simp; omega
 rw [hp]
 obtain ⟨n, rfl⟩ := Int.eq_ofNat_of_zero_le (show 0 ≤ np by omega)
 obtain ⟨m, rfl⟩ := Int.eq_ofNat_of_zero_le (show 0 ≤ nb by omega)
 simp only [Int.toNat_natCast]
 repeat' (first | apply zae | apply zaa | apply zah | apply zaf | apply zad | apply zab hT; iterate 4 exact rfl | apply zdM hT; (iterate 12 exact rfl); (iterate 1 exact rfl); omega; exact nle rfl; intro g21 | apply zaO hT (cs := [.slice none 0 0, .slice (some ⟨g21, 0, none⟩) n n]); iterate 4 exact rfl | apply zaK; (iterate 5 exact rfl); intro g23 | (apply zav; exact rfl; all_goals (intro hb; (fail_if_success (change true = true at hb)); (fail_if_success (change false = false at hb)); (try dsimp only at hb); (try simp only [hb]); (first | replace hb := odt hb | replace hb := odf hb ); (try omega))) | (apply zam; exact rfl; all_goals (intro hb; (try dsimp only at hb); (try simp only [hb]); (first | replace hb := odt hb | replace hb := odf hb ); (try omega))))
 all_goals try omega
 refine zbV (fun w hw => ⟨_, hw.own_nil 74 1, ?_⟩)
 refine zbj (α := Nat × Option Addr × Nat × List PRow) (E := fun x => [(0, .int .i64 n), (1, .int .i64 m), (5, .pointer (some ⟨g23, 0, none⟩)), (24, .int .i64 n), (25, .int .i64 x.1)])
  (H := fun x => zcE g23 (some ⟨g21, 0, none⟩) n x.2.1 x.2.2.1 (List.replicate n 0) x.2.2.2 h) (μ := fun x => n - x.1)
  (S := fun x => x.1 ≤ n ∧ x.2.2.2.map PRow.l = List.replicate x.1 (List.replicate m 0)) (0, none, 0, []) ⟨Nat.zero_le _, rfl⟩ ⟨rfl, rfl, rfl, rfl, rfl, trivial⟩ (by unfold zcE; rw [List.map_replicate, List.length_replicate]; (repeat (first | exact zar | (apply zay; · (repeat (first | exact sel0 | apply selS)))))) ?_
 rintro ⟨k, AR, cR, rs⟩ ⟨hk, hrs⟩
 dsimp only at hk hrs ⊢
 have hlen : rs.length = k := by have := congrArg List.length hrs; simpa using this
 by_cases hlt : k < n
 ·have hd1 : decide ((k : Int) < (n : Int)) = true := by simp; omega
  unfold zcE
  repeat' (first | apply zae | apply zaa | apply zah | apply zaf | apply zad | apply zab hT; iterate 4 exact rfl | (apply zaN hT; (iterate 4 exact rfl); (iterate 2 (first | omega ))) | (apply zb8 [] [] (.step 0 <| .step 1 <| .step 2 <| .step 3 <| .step 4 <| .step 5 <| .step 6 <| .step 7 <| .step 8 <| .step 9 <| .step 10 <| .step 11 <| .nil) hmix; decide +kernel) | apply zcX | apply zbN; exact rfl | apply zdM hT; (iterate 12 exact rfl); (iterate 1 exact rfl); omega; exact nle rfl; intro g33 | apply zao hT; (iterate 12 exact rfl); intro g34 | (apply zbg hT; (iterate 10 exact rfl); (repeat (first | exact sel0 | apply selS)); exact zaJ.own mem0 rfl (List.all_eq_true.1 rfl); omega; (show (_ : Nat) * 24 ≤ _; omega); intro A' c') | (apply zaF hT; (iterate 6 exact rfl); (repeat (first | exact sel0 | apply selS)); (iterate 3 exact rfl); exact nle rfl) | (apply zal; (iterate 5 exact rfl); first | (apply zaC hT; exact rfl; exact rfl; (repeat (first | exact mcs )); exact rfl; exact rfl) ) | (apply zam; exact rfl; all_goals (intro hb; (try dsimp only at hb); (try simp only [hb]); (first | replace hb := odt hb | replace hb := odf hb ); (try omega))))
  all_goals first
   | (exfalso; omega)
   | (refine zaR (k + 1, A', c', rs ++ [⟨some ⟨g33, 0, none⟩, m, List.replicate m 0⟩]) (by dsimp only; omega) ⟨by dsimp only; omega, by dsimp only; rw [List.map_append, hrs, List.replicate_succ']; rfl⟩ ⟨rfl, rfl, rfl, rfl, rfl, trivial⟩ ?_
      dsimp only
      rw [List.length_append, List.map_append, List.map_append, List.append_assoc]
      simp only [List.map_cons, List.map_nil, PRow.hd, PRow.ck, List.length_replicate, List.map_replicate, List.length_cons, List.length_nil, List.cons_append, List.nil_append]
      apply zay; (repeat (first | exact sel0))
      apply zay; (repeat (first | exact sel0 | apply selS))
      apply zay; (repeat (first | exact sel0))
      refine zlB ?_
      (repeat (first | exact zar | (apply zay; · (repeat (first | exact sel0 | apply selS))) | apply zat)))
   | skip
 ·obtain rfl : k = n := by omega
  have hd1 : decide ((k : Int) < (k : Int)) = false := by simp
  repeat' (first | apply zae | apply zaa | apply zaj | apply zas | apply zad | apply zab hT; iterate 4 exact rfl | (apply zam; exact rfl; all_goals (intro hb; (try dsimp only at hb); (try simp only [hb]); (first | replace hb := odt hb | replace hb := odf hb ); (try omega))))
  all_goals first
   | (exfalso; omega)
   | (apply ret1; exact rfl; exact ⟨_, zar, .inr ⟨by trivial, g23, _, _, _, _, _, rfl, rfl, hrs⟩⟩)
end Go.Proofs.YtakilgkpfjhfdaaGreat
namespace Go.Sl
open Go
theorem zcZ {P : Program} {W : World} {N : Nat} {env : Env} {h : List zax} {kf : KF} {ops : Array Oper} {K : Env → List zax → Prop} {rest : List Oper} {b : Bool} {e f r : Int} {k : IntKind} {op : BinOp} {d : Tmp} {t yt : TypeId} {x y : Operand} {ty pos af g} (hg : zbC ops env g = some b) (hb : b = true) (hd : Nat.blt d N = true) (hop : zot op = true) (hx : za8 env x = some (.int k e)) (hy : za8 env y = some (.int k f)) (hv : bitI op k e f = r)
 (hK : ES P W N kf ops rest ((d, .int k r) :: env) h K) : ES P W N kf ops (⟨some d, .binOp op t x y yt, ty, pos, af, g⟩ :: rest) env h K := zcJ hg hb hd hop hx hy (by rw [hv]; exact hK)
end Go.Sl
namespace Go.Proofs.YtakilgkpfjhfdaaGreat
open Go Go.Sl
attribute [local irreducible] AW ES EP Ld RetQ
set_option maxRecDepth 100000
theorem zkD (W : World) (h : List zax) : zaB Tryz.prog W 33 [] h (fun v h' => ∃ p, v = .pointer (some ⟨p, 0, none⟩) ∧ h' = .blk p 129 [.slice none 0 0] :: h) := by
 refine zan Tryz.func33 rfl rfl Tryz.results33 Tryz.ntmps33 rfl rfl ?_
 repeat' (first | apply zae | apply zaa | apply zaj | apply zad | apply zab hT; iterate 4 exact rfl | apply zaO hT (cs := [.slice none 0 0]); iterate 4 exact rfl | apply zaK; (iterate 5 exact rfl); intro _)
 all_goals (apply ret1; exact rfl; exact ⟨_, rfl, rfl⟩)
theorem znn (W : World) (h : List zax) : zaB Tryz.prog W 34 [] h (fun v h' => ∃ p, v = .pointer (some ⟨p, 0, none⟩) ∧ h' = .blk p 131 [.slice none 0 0] :: h) := by
 refine zan Tryz.func34 rfl rfl Tryz.results34 Tryz.ntmps34 rfl rfl ?_
 repeat' (first | apply zae | apply zaa | apply zaj | apply zad | apply zab hT; iterate 4 exact rfl | apply zaO hT (cs := [.slice none 0 0]); iterate 4 exact rfl | apply zaK; (iterate 5 exact rfl); intro _)
 all_goals (apply ret1; exact rfl; exact ⟨_, rfl, rfl⟩)
theorem zno (W : World) (h : List zax) : zaB Tryz.prog W 35 [] h (fun v h' => ∃ p, v = .pointer (some ⟨p, 0, none⟩) ∧ h' = .blk p 133 [.slice none 0 0] :: h) := by
 refine zan Tryz.func35 rfl rfl Tryz.results35 Tryz.ntmps35 rfl rfl ?_
 repeat' (first | apply zae | apply zaa | apply zaj | apply zad | apply zab hT; iterate 4 exact rfl | apply zaO hT (cs := [.slice none 0 0]); iterate 4 exact rfl | apply zaK; (iterate 5 exact rfl); intro _)
 all_goals (apply ret1; exact rfl; exact ⟨_, rfl, rfl⟩)
theorem zlH (W : World) (h : List zax) : zaB Tryz.prog W 37 [] h (fun v h' => ∃ p, v = .pointer (some ⟨p, 0, none⟩) ∧ h' = .blk p 138 [.slice none 0 0, .int .u64 0] :: h) := by
 refine zan Tryz.func37 rfl rfl Tryz.results37 Tryz.ntmps37 rfl rfl ?_
 repeat' (first | apply zae | apply zaa | apply zaj | apply zad | apply zab hT; iterate 4 exact rfl | apply zaO hT (cs := [.slice none 0 0, .int .u64 0]); iterate 4 exact rfl | apply zaK; (iterate 5 exact rfl); intro _)
 all_goals (apply ret1; exact rfl; exact ⟨_, rfl, rfl⟩)
theorem zlI (W : World) (h : List zax) : zaB Tryz.prog W 38 [] h (fun v h' => ∃ p, v = .pointer (some ⟨p, 0, none⟩) ∧ h' = .blk p 106 [.slice none 0 0] :: h) := by
 refine zan Tryz.func38 rfl rfl Tryz.results38 Tryz.ntmps38 rfl rfl ?_
 repeat' (first | apply zae | apply zaa | apply zaj | apply zad | apply zab hT; iterate 4 exact rfl | apply zaO hT (cs := [.slice none 0 0]); iterate 4 exact rfl | apply zaK; (iterate 5 exact rfl); intro _)
 all_goals (apply ret1; exact rfl; exact ⟨_, rfl, rfl⟩)
def kb1 : za3 := ⟨5, 10, 10, 100, 5, 500, false⟩
def kb2 : za3 := ⟨1, 1, 1, 1000, 1, 1000, false⟩
def kps : List zaV := [⟨1, 12, 0⟩, ⟨1, 4, 0⟩, ⟨2, 0, 100000⟩, ⟨2, 0, 3000⟩, ⟨3, 0, 0⟩]
end Go.Proofs.YtakilgkpfjhfdaaGreat
namespace Go.Proofs.YtakilgkpfjhfdaaGreat
open Go Go.Sl
structure Dk where
 bonds : List za3
 parties : List zaV
 look : Int
 beat : Int
 now : Int
 books : List (List zaA)
 used : List Int
 quotes : List zaG
 asks : List AskR
 due : List Due
 cash : List Int
 pos : List (List Int)
 trades : List zbc
 head : Int
 order : Int
 seq : Int
 quote : Int
 ask : Int
def zeI (bs : List za3) (ps : List zaV) (look beat : Int) : Dk :=
 ⟨bs, ps, look, beat, 0, List.replicate bs.length [], List.replicate ps.length 0, [], [], [], List.replicate ps.length 0, List.replicate ps.length (List.replicate bs.length 0), [], 0, 0, 0, 0, 0⟩
structure Sp where
 A : Option Addr
 c : Nat
def Sp.sl (s : Sp) (n : Nat) : Value := .slice s.A n s.c
def Sp.own (s : Sp) (n : Nat) (t : TypeId) (k : Nat) (cs : List Value) : zax := .own s.A n s.c t k cs
structure BAd where
 p : Nat
 s : Sp
 l : List zaA
def BAd.ptr (b : BAd) : Value := .pointer (some ⟨b.p, 0, none⟩)
def BAd.ck (b : BAd) : List zax := [.blk b.p 106 [b.s.sl b.l.length], b.s.own b.l.length 52 6 (b.l.flatMap zaA.enc)]
structure DAd where
 d : Nat
 f : Nat
 q : Nat
 a : Nat
 u : Nat
 p : Nat
 b : Nat
 bonds : Sp
 parties : Sp
 books : Sp
 fparties : Sp
 used : Sp
 quotes : Sp
 asks : Sp
 due : Sp
 cash : Sp
 pos : Sp
 trades : Sp
def ptrV (n : Nat) : Value := .pointer (some ⟨n, 0, none⟩)
def zb0 (x : DAd) (s : Dk) : List Value := [x.bonds.sl s.bonds.length, x.parties.sl s.parties.length, .int .i64 s.look, .int .i64 s.beat, .int .i64 s.now, x.books.sl s.books.length, ptrV x.f, ptrV x.q, ptrV x.a, ptrV x.u, ptrV x.p, ptrV x.b,
 .int .i64 s.order, .int .i64 s.seq, .int .i64 s.quote, .int .i64 s.ask]
def zai (x : DAd) (s : Dk) (bks : List BAd) (rows : List PRow) (F : List zax) : List zax :=
 .blk x.d 95 (zb0 x s) :: x.bonds.own s.bonds.length 79 7 (s.bonds.flatMap za3.enc) :: x.parties.own s.parties.length 82 3 (s.parties.flatMap zaV.enc)
  :: x.books.own s.books.length 48 1 (bks.map BAd.ptr)
  :: .blk x.f 127 [x.fparties.sl s.parties.length, x.used.sl s.parties.length] :: x.fparties.own s.parties.length 82 3 (s.parties.flatMap zaV.enc) :: x.used.own s.parties.length 2 1 (s.used.map (Value.int .i64))
  :: .blk x.q 129 [x.quotes.sl s.quotes.length] :: x.quotes.own s.quotes.length 115 6 (s.quotes.flatMap zaG.enc)
  :: .blk x.a 131 [x.asks.sl s.asks.length] :: x.asks.own s.asks.length 68 10 (s.asks.flatMap AskR.enc)
  :: .blk x.u 133 [x.due.sl s.due.length] :: x.due.own s.due.length 121 3 (s.due.flatMap Due.enc)
  :: .blk x.p 136 [x.pos.sl rows.length, x.cash.sl s.cash.length] :: x.cash.own s.cash.length 2 1 (s.cash.map (Value.int .i64)) :: x.pos.own rows.length 74 1 (rows.map PRow.hd)
  :: .blk x.b 138 [x.trades.sl s.trades.length, .int .u64 s.head] :: x.trades.own s.trades.length 103 8 (s.trades.flatMap zbc.enc)
  :: (bks.flatMap BAd.ck ++ (rows.map PRow.ck ++ F))
def za6 (s : Dk) (bks : List BAd) (rows : List PRow) : Prop := bks.map BAd.l = s.books ∧ rows.map PRow.l = s.pos
def at0 {α : Type} (l : List α) (i : Int) : Option α := if i < 0 then none else l[i.toNat]?
def inW (n : Int) : Prop := -9223372036854775808 ≤ n ∧ n ≤ 9223372036854775807
def inI (n : Int) : Bool := inB n (-9223372036854775808) 9223372036854775807
theorem zeJ {n : Int} (h : inI n = true) : -9223372036854775808 ≤ n ∧ n ≤ 9223372036854775807 := zck h
theorem zoQ {n : Int} (h : inI n = false) : n < -9223372036854775808 ∨ 9223372036854775807 < n := zpX h
structure Ps where
 cash : List Int
 pos : List (List Int)
def zg7 (p : Ps) (who bond : Int) : Int := ((at0 p.pos who).bind fun r => at0 r bond).getD 0
def zfO (p : Ps) (who : Int) : Int := (at0 p.cash who).getD 0
def zdr (p : Ps) (who bond : Int) : Bool := decide (0 ≤ who) && (decide (who < p.cash.length) && (decide (0 ≤ bond) && decide (bond < ((at0 p.pos who).getD []).length)))
def putE (p : Ps) (t : zbc) : Int :=
 if zdr p t.buyer t.bond = false ∨ zdr p t.seller t.bond = false ∨ t.buyer = t.seller ∨ t.price < 1 ∨ t.qty < 1 then 1
 else if inI (t.price * t.qty) && inI (zg7 p t.buyer t.bond + t.qty) && inI (zg7 p t.seller t.bond - t.qty) && inI (zfO p t.buyer - t.price * t.qty) && inI (zfO p t.seller + t.price * t.qty) then 0 else 15
def setRow (l : List (List Int)) (who bond n : Int) : List (List Int) := l.set who.toNat (((at0 l who).getD []).set bond.toNat n)
def putP (p : Ps) (t : zbc) : Ps :=
 if putE p t = 0 then ⟨(p.cash.set t.buyer.toNat (zfO p t.buyer - t.price * t.qty)).set t.seller.toNat (zfO p t.seller + t.price * t.qty),
  setRow (setRow p.pos t.buyer t.bond (zg7 p t.buyer t.bond + t.qty)) t.seller t.bond (zg7 p t.seller t.bond - t.qty)⟩ else p
theorem zfU {α : Type} : ∀ {l : List α} {i : Nat}, i < l.length → ∃ R, ∀ a, (l.set i a).Perm (a :: R)
 | [], i, h => absurd h (Nat.not_lt_zero _)
 | x :: l, 0, _ => ⟨l, fun a => List.Perm.refl _⟩
 | x :: l, i + 1, h => by
   obtain ⟨R, hR⟩ := zfU (l := l) (i := i) (by simpa using h)
   exact ⟨x :: R, fun a => ((hR a).cons x).trans (List.Perm.swap _ _ _)⟩
theorem zix {α : Type} : ∀ {l : List α} {i j : Nat}, i < l.length → j < l.length → i ≠ j → ∃ R, ∀ a b, ((l.set i a).set j b).Perm (a :: b :: R)
 | [], i, j, h, _, _ => absurd h (Nat.not_lt_zero _)
 | x :: l, 0, 0, _, _, h => absurd rfl h
 | x :: l, 0, j + 1, _, h, _ => by
   obtain ⟨R, hR⟩ := zfU (l := l) (i := j) (by simpa using h)
   exact ⟨R, fun a b => (hR b).cons a⟩
 | x :: l, i + 1, 0, h, _, _ => by
   obtain ⟨R, hR⟩ := zfU (l := l) (i := i) (by simpa using h)
   exact ⟨R, fun a b => ((hR a).cons b).trans (List.Perm.swap _ _ _)⟩
 | x :: l, i + 1, j + 1, h1, h2, h3 => by
   obtain ⟨R, hR⟩ := zix (l := l) (i := i) (j := j) (by simpa using h1) (by simpa using h2) (by omega)
   exact ⟨x :: R, fun a b => ((hR a b).cons x).trans (((List.Perm.swap a x _).trans ((List.Perm.swap b x R).cons a)))⟩
theorem zcx {α : Type} {l : List α} {i : Nat} {a : α} (h : l[i]? = some a) : l.set i a = l := by
 obtain ⟨hi, rfl⟩ := List.getElem?_eq_some_iff.1 h
 exact List.set_getElem_self hi
/-! ### messages -/
def MsgR.nums (m : MsgR) : List Int := [m.f0, m.f1, m.f2, m.f3, m.f4, m.f5]
def zaw (kind : Int) (l : List Int) : MsgR := ⟨kind, l.getD 0 0, l.getD 1 0, l.getD 2 0, l.getD 3 0, l.getD 4 0, l.getD 5 0⟩
def outM (to kind : Int) (l : List Int) : OutR := ⟨to, zaw kind l⟩
def zqP : List Int := [-1, 1, 0, 0, 1, 0, 5, 1, 3, 5, 3, 1, 1, 1, 1, 1, 1, 2, 2, 2, 4, 2, 5, 4, 3, 2, 2, 1, 6]
def zg8 (k : Int) : Int := if k < 0 ∨ k ≥ 29 then -1 else zqP.getD k.toNat (-1)
def zlJ (m : MsgR) : Bool := decide (zg8 m.kind ≥ 0) && (((MsgR.nums m).drop (zg8 m.kind).toNat).all fun v => v == 0)
def zhq (k : Int) : Bool := inB k 6 17
/-! ### trades -/
def zigN (n : Int) : Nat := if n < 0 then 2 * (-(n + 1)).toNat + 1 else 2 * n.toNat
def oneN (z : Nat) : List Nat := if h : z < 128 then [z] else (z % 128 + 128) :: oneN (z / 128)
termination_by z
decreasing_by omega
def zdP (l : List Int) : List Nat := l.flatMap fun n => oneN (zigN n)
def mixN (x b : Nat) : Nat := ((x ^^^ b) * 1099511628211) % 18446744073709551616
def zc8 (last : Nat) (bs : List Nat) : Nat := let x := bs.foldl mixN (last ^^^ 1469598103934665603); x ^^^ (x / 536870912)
def zcf (t : zbc) : List Nat := zdP [t.id, t.bond, t.buyer, t.seller, t.price, t.qty, t.ask, t.tick]
def zds (t : zbc) : List OutR := [outM t.buyer 28 [t.id, 1, t.bond, t.price, t.qty, t.seller], outM t.seller 28 [t.id, 2, t.bond, t.price, t.qty, t.buyer]]
def zd6 (b : za3) (p : Int) : Int := if inB p b.low b.high = false then 10 else if p % b.tick ≠ 0 then 7 else 0
def qtyE (b : za3) (q : Int) : Int := if inB q b.min b.max = false then 9 else if q % b.lot ≠ 0 then 8 else 0
def zc9 (b : za3) (p q : Int) : Int := if b.halted then 6 else if zd6 b p ≠ 0 then zd6 b p else qtyE b q
def zlK (b : za3) (how p q : Int) : Int := if how ≠ 4 then zc9 b p q else if p ≠ 0 then 1 else if b.halted then 6 else qtyE b q
def zcK (ps : List zaV) (who : Int) : Int := ((at0 ps who).map zaV.role).getD 0
def mayV (ps : List zaV) (who kind : Int) : Bool :=
 if kind = 6 ∨ kind = 7 ∨ kind = 8 then zcK ps who == 1 || zcK ps who == 2
 else if kind = 9 ∨ kind = 12 ∨ kind = 13 ∨ kind = 16 then zcK ps who == 1
 else if kind = 10 ∨ kind = 11 ∨ kind = 14 ∨ kind = 15 then zcK ps who == 2
 else if kind = 17 then zcK ps who == 3 else false
def zhV (x i : Int) : Bool := decide (x / 2 ^ i.toNat % 2 = 1)
def zgi (ps : List zaV) (who dealers : Int) : Int :=
 if zcK ps who ≠ 1 then 5 else if dealers = 0 ∨ bitI .andNot .u64 dealers (((at0 ps who).map zaV.asks).getD 0) ≠ 0 then 1 else 0
def zdU (used : List Int) (who : Int) : Int := (at0 used who).getD 0
def zc0 (ps : List zaV) (used : List Int) (who price qty : Int) : Int :=
 if zcK ps who ≠ 2 then 5 else if price < 1 ∨ qty < 1 then 1 else if price * qty > 9223372036854775807 then 15
 else if zdU used who + price * qty > 9223372036854775807 then 15 else if zdU used who + price * qty > ((at0 ps who).map zaV.cap).getD 0 then 14 else 0
structure PosB (b : za3) : Prop where
 tick : 1 ≤ b.tick
 lot : 1 ≤ b.lot
 low : 1 ≤ b.low
 min : 1 ≤ b.min
 high : b.high ≤ 1000000
 max : b.max ≤ 1000000
theorem zeo {b : za3} (h : zcT b = true) : PosB b := by
 unfold zcT at h
 simp only [Bool.and_eq_true] at h
 obtain ⟨⟨⟨⟨a1, a2⟩, a3⟩, ⟨b1, b2⟩, b3⟩, _⟩ := h
 have a1 := zck a1
 have a2 := zck a2
 have a3 := zck a3
 have b1 := zck b1
 have b2 := zck b2
 have b3 := zck b3
 exact ⟨by omega, by omega, by omega, by omega, by omega, by omega⟩
theorem zda {ps : List zaV} {who : Int} (h : zcK ps who ≠ 0) : 0 ≤ who ∧ who < ps.length ∧ ∃ p, ps[who.toNat]? = some p ∧ p.role = zcK ps who := by
 unfold zcK at0 at h
 split at h
 ·exact absurd rfl h
 ·rename_i hw
  rcases hp : ps[who.toNat]? with _ | p
  ·rw [hp] at h; exact absurd rfl h
  ·have hl := (List.getElem?_eq_some_iff.1 hp).1
   refine ⟨by omega, by omega, p, rfl, ?_⟩
   unfold zcK at0
   rw [if_neg hw, hp]; rfl
theorem zoR {ps : List zaV} {who : Int} {p : zaV} (h0 : 0 ≤ who) (hp : ps[who.toNat]? = some p) : zcK ps who = p.role := by
 unfold zcK at0
 rw [if_neg (by omega), hp]; rfl
theorem znp {ps : List zaV} {who : Int} (h : who < 0 ∨ (ps.length : Int) ≤ who) : zcK ps who = 0 := by
 unfold zcK at0
 split
 ·rfl
 ·rw [List.getElem?_eq_none (by omega)]; rfl
end Go.Proofs.YtakilgkpfjhfdaaGreat
namespace Go.Proofs.YtakilgkpfjhfdaaGreat
open Go Go.Sl
attribute [local irreducible] AW ES Ld RetQ
set_option maxRecDepth 100000
theorem zdk (W : World) (h : List zax) (A : Option Addr) (n c : Nat) (l : List zaA) (hn : l.length = n) (hr : zaJ W h A n 6 (l.flatMap zaA.enc)) (fn : FuncId) (cap : List Value) (p : zaA → Bool)
 (hf : ∀ x ∈ l, zaL Tryz.prog W fn ([.agg x.enc.toArray] ++ cap) h (.bool (p x))) (hb : n ≤ 4611686018427387903) :
 zaL Tryz.prog W 129 [.slice A n c, .func (.func fn) #[] cap.toArray] h (.int .i64 (za4 p l)) := by
 refine zaL.of (fun h' hs => ?_)
 have hr' := hr.mono hs
 refine zan Tryz.func129 rfl rfl Tryz.results129 Tryz.ntmps129 rfl rfl ?_
 refine zaU hr' rfl (fun hA => ?_)
 repeat' (first | apply zae | apply zaa | apply zaf | apply zad | apply zab hT; iterate 4 exact rfl)
 refine zbU (α := Nat) (E := fun k => [(0, .slice A n c), (1, .func (.func fn) #[] cap.toArray), (7, .int .i64 n), (8, .int .i64 k)]) (H := fun _ => h') (μ := fun k => n - k)
  (S := fun k => k ≤ n ∧ ∀ (j : Nat) y, j < k → l[j]? = some y → p y = false) 0 (J := []) ⟨Nat.zero_le _, fun j y hj => by omega⟩ ⟨rfl, rfl, rfl, rfl, trivial⟩ (List.Perm.refl _) ?_
 rintro k ⟨hk1, hk2⟩
 by_cases hlt : k < n
 ·obtain ⟨x, hx⟩ : ∃ x, l[k]? = some x := ⟨l[k]'(by omega), List.getElem?_eq_getElem (by omega)⟩
  have hx2 : l[(k : Int).toNat]? = some x := by simpa using hx
  have hfx := (hf x (List.mem_of_getElem? hx)).mono hs
  have hA' := hA (by omega)
  repeat' (first | apply zae | apply zaa | apply zaj | apply zah | apply zaf | apply zad | apply zab hT; iterate 4 exact rfl | apply zaN hT; (iterate 4 exact rfl); (iterate 2 omega) | apply zaS hT; (iterate 8 exact rfl); (iterate 2 omega); exact hA' | apply zal; (iterate 5 exact rfl); exact zaY hT rfl rfl hr' zaA.enc_len rfl hx2 rfl | apply zac (hs := hfx); iterate 7 exact rfl | (apply zam; exact rfl; all_goals (intro hb; (try simp only [hb]); (first | replace hb := odt hb | replace hb := odf hb | skip); (try omega))))
  ·exact zch (J := []) rfl (by rw [zdK hx hb hk2]) (List.Perm.refl _)
  ·have hpx := hb
   refine ⟨k + 1, [], by dsimp only; omega, ⟨by omega, fun j y hj hy => ?_⟩, ⟨rfl, rfl, rfl, rfl, trivial⟩, List.Perm.refl _⟩
   by_cases hjk : j < k
   ·exact hk2 j y hjk hy
   ·obtain rfl : j = k := by omega
    rw [hx] at hy; cases hy; exact hpx
 ·repeat' (first | apply zae | apply zaa | apply zaj | apply zas | apply zad | apply zab hT; iterate 4 exact rfl | (apply zam; exact rfl; all_goals (intro hb; (try simp only [hb]); (first | replace hb := odt hb | replace hb := odf hb ); (try omega))))
  exact zch (J := []) rfl (by rw [zcc (fun (j : Nat) y hj => hk2 j y (by have := (List.getElem?_eq_some_iff.1 hj).1; omega) hj)]) (List.Perm.refl _)
theorem zdt (W : World) (h : List zax) (A : Option Addr) (n c : Nat) (l : List zaA) (hn : l.length = n) (hr : zaJ W h A n 6 (l.flatMap zaA.enc)) (fn : FuncId) (cap : List Value) (p : zaA → Bool)
 (hf : ∀ x ∈ l, zaL Tryz.prog W fn ([.agg x.enc.toArray] ++ cap) h (.bool (p x))) (hb : n ≤ 4611686018427387903) :
 zaL Tryz.prog W 214 [.slice A n c, .func (.func fn) #[] cap.toArray] h (.bool (decide (za4 p l ≥ 0))) := by
 refine zaL.of (fun h' hs => ?_)
 refine zan Tryz.func214 rfl rfl Tryz.results214 Tryz.ntmps214 rfl rfl ?_
 repeat' (first | apply zae | apply zaa | apply zaj | apply zad | apply zab hT; iterate 4 exact rfl | apply zac (hs := ((zdk W h A n c l hn hr fn cap p hf hb).mono hs)); iterate 7 exact rfl)
 exact zch (J := []) rfl rfl (List.Perm.refl _)
theorem zjo (W : World) (F : List zax) (A : Option Addr) (n c : Nat) (i j : Int) (cs : List Value) (h0 : 0 ≤ i) (hij : i ≤ j) (hjn : j ≤ n) :
 zaB Tryz.prog W 73 [.slice A n c, .int .i64 i, .int .i64 j] (.own A n c 52 6 cs :: F)
  (fun v h' => v = .slice A (n - (j.toNat - i.toNat)) c ∧ h' = .own A (n - (j.toNat - i.toNat)) c 52 6 (cs.take (i.toNat * 6) ++ cs.drop (j.toNat * 6)) :: F) := by
 obtain ⟨i, rfl⟩ := Int.eq_ofNat_of_zero_le h0
 obtain ⟨j, rfl⟩ := Int.eq_ofNat_of_zero_le (show 0 ≤ j by omega)
 simp only [Int.toNat_natCast]
 by_cases hij0 : i = j
 ·subst hij0
  have he : ((i : Int) == (i : Int)) = true := by simp
  refine zan Tryz.func73 rfl rfl Tryz.results73 Tryz.ntmps73 rfl rfl ?_
  refine zbm mem0 (fun hl hnc hcc hsome hnone hone => ?_)
  repeat' (first | apply zae | apply zaa | apply zaj | apply zad | apply zab hT; iterate 4 exact rfl | apply ze1 hT; (iterate 10 exact rfl); (iterate 3 omega) | apply zak; exact rfl; exact he)
  apply ret1; exact rfl
  exact ⟨by simp, by simp⟩
 ·have he : ((i : Int) == (j : Int)) = false := by simp; omega
  have hlt : i < j := by omega
  have hz : (ti52.zero.cells.toList).length = 6 := rfl
  refine zaB.conv (R := fun v h' => v = .slice A (n - (j - i)) c ∧ ∃ (g : Nat) (cur : List Value), A = some ⟨g, 0, none⟩ ∧ cur.length = c * 6 ∧ cur.take (n * 6) = cs ∧ cs.length = n * 6 ∧ n ≤ c ∧ c ≤ 9223372036854775807 ∧ (∀ v ∈ cs, v.oneCell' = true) ∧
   h' = .blk g 52 (lay (lay cur (i * 6) (cs.drop (j * 6))) ((i + (n - j)) * 6) (repZ ti52.zero.cells.toList (n - (i + (n - j))))) :: F) ?_ ?_
  rotate_left
  ·rintro v h' ⟨hv, g, cur, rfl, hcl, htk, hl, hnc, hcc, hone, rfl⟩ w hw
   have hdl : (cs.drop (j * 6)).length = (n - j) * 6 := by rw [List.length_drop, hl, Nat.sub_mul]
   have hyl : (lay cur (i * 6) (cs.drop (j * 6))).length = c * 6 := by rw [zcI (by omega)]; exact hcl
   have hzl : (repZ ti52.zero.cells.toList (n - (i + (n - j)))).length = (n - (i + (n - j))) * 6 := by rw [zdI, hz]
   have hcut : (lay (lay cur (i * 6) (cs.drop (j * 6))) ((i + (n - j)) * 6) (repZ ti52.zero.cells.toList (n - (i + (n - j))))).take ((n - (j - i)) * 6) = cs.take (i * 6) ++ cs.drop (j * 6) := by
    rw [show (n - (j - i)) * 6 = (i + (n - j)) * 6 by omega, zd3 (by omega)]
    have := zd4 (Y := cur) (Z := cs.drop (j * 6)) (o := i * 6) (by omega)
    rw [hdl, ← Nat.add_mul] at this
    rw [this, ← htk, List.take_take, Nat.min_eq_left (by omega)]
   refine ⟨_, hw.shut_ (n := n - (j - i)) (c := c) (k := 6) ?_ hcut ?_ (by omega) hcc ?_, hv, rfl⟩
   ·rw [zcI (by omega)]; exact hyl
   ·rw [List.length_append, hdl, List.length_take, hl]; omega
   ·intro u hu
    rcases List.mem_append.1 hu with hu | hu
    ·exact hone u (List.mem_of_mem_take hu)
    ·exact hone u (List.mem_of_mem_drop hu)
  refine zan Tryz.func73 rfl rfl Tryz.results73 Tryz.ntmps73 rfl rfl ?_
  refine zbm mem0 (fun hl hnc hcc hsome hnone hone => ?_)
  obtain ⟨g, rfl⟩ := hsome (by omega)
  refine zfs sel0 (fun cur hcl htk _ _ _ _ => ?_)
  have hr0 : zaJ W (.blk g 52 cur :: F) (some ⟨g, 0, none⟩) n 6 cs := zaJ.blk mem0 (by simpa using htk) hl hone
  have hr1 := hr0.cut hnc (show j ≤ n by omega) (Nat.le_refl n)
  rw [List.take_of_length_le (by rw [List.length_drop, hl, Nat.sub_mul]; omega)] at hr1
  have hdl : (cs.drop (j * 6)).length = (n - j) * 6 := hr1.len
  have hyl : (lay cur (i * 6) (cs.drop (j * 6))).length = c * 6 := by rw [zcI (by omega)]; exact hcl
  repeat' (first | apply zae | apply zaa | apply zaj | apply zah | apply zad | apply zab hT; iterate 4 exact rfl | apply zaM [] [] hmix; decide +kernel | apply ze1 hT; (iterate 10 exact rfl); (iterate 3 omega) | apply zag; exact rfl; exact he | apply zbX hT; (iterate 8 exact rfl); (iterate 2 omega) | apply zby hT; (iterate 8 exact rfl); (iterate 3 omega); exact rfl | apply zho hT (k := 6); (iterate 11 exact rfl); exact sel0; exact hr1; omega; (show i * 6 + (n - j) * 6 ≤ _; omega) | (apply zfM hT; (iterate 9 exact rfl); (iterate 3 omega); exact zcs (by omega)) | apply zhR hT (k := 6); (iterate 9 exact rfl); exact sel0; exact rfl; (show (i + (n - j)) * 6 + (n - (i + (n - j))) * 6 ≤ (lay cur (i * 6) (cs.drop (j * 6))).length; omega))
  apply ret1; exact rfl
  exact ⟨by rw [show n - (j - i) = i + (n - j) by omega]; rfl, g, cur, rfl, hcl, htk, hl, hnc, hcc, hone, rfl⟩
end Go.Proofs.YtakilgkpfjhfdaaGreat
namespace Go.Proofs.YtakilgkpfjhfdaaGreat
open Go Go.Sl
/-! ### rows by an order -/
theorem zoS {α : Type} {p : α → α → Bool} {m : List α} {q : α} (h : m.Pairwise fun a b => p a b = true) (htr : ∀ a b c, p a b = true → p b c = true → p a c = true) (htot : ∀ x ∈ m, p x q = true ∨ p q x = true) {n : Nat} (hn : n = (m.takeWhile fun x => p x q).length) :
 (m.take n ++ [q] ++ m.drop n).Pairwise fun a b => p a b = true := by
 subst hn
 have hl : ∀ x ∈ m.take (m.takeWhile fun x => p x q).length, p x q = true := fun x hx => zcj (p := fun x => p x q) (l := m) x hx
 have hsplit : m.take (m.takeWhile fun x => p x q).length ++ m.drop (m.takeWhile fun x => p x q).length = m := List.take_append_drop _ _
 have hp := h
 rw [← hsplit, List.pairwise_append] at hp
 obtain ⟨p1, p2, p3⟩ := hp
 have hr : ∀ y ∈ m.drop (m.takeWhile fun x => p x q).length, p q y = true := fun y hy => by
  cases hm : m.drop (m.takeWhile fun x => p x q).length with
  | nil => rw [hm] at hy; cases hy
  | cons z r =>
    have hz := zcw (p := fun x => p x q) (l := m) hm
    have hzl : z ∈ m := List.mem_of_mem_drop (by rw [hm]; simp)
    have hqz : p q z = true := by
     rcases htot z hzl with h | h
     ·rw [hz] at h; cases h
     ·exact h
    rw [hm] at hy p2
    rcases List.mem_cons.1 hy with rfl | hy
    ·exact hqz
    ·exact htr _ _ _ hqz (List.rel_of_pairwise_cons p2 hy)
 rw [List.append_assoc, List.pairwise_append]
 refine ⟨p1, ?_, fun x hx y hy => ?_⟩
 ·rw [List.singleton_append, List.pairwise_cons]; exact ⟨hr, p2⟩
 ·rw [List.singleton_append] at hy
  rcases List.mem_cons.1 hy with rfl | hy
  ·exact hl x hx
  ·exact p3 x hx y hy
theorem zow {α : Type} {p : α → α → Bool} (has : ∀ x y, p x y = true → p y x = true → False) : ∀ {a b : List α}, a.Pairwise (fun x y => p x y = true) → b.Pairwise (fun x y => p x y = true) → a.Perm b → a = b
 | [], b, _, _, hp => by rw [List.nil_perm.1 hp]
 | x :: a, [], _, _, hp => by have := hp.length_eq; simp at this
 | x :: a, y :: b, ha, hb, hp => by
   rw [List.pairwise_cons] at ha hb
   have hxy : x = y := by
    rcases List.mem_cons.1 (hp.mem_iff.1 (mcs (a := x) (l := a))) with h | h
    ·exact h
    ·rcases List.mem_cons.1 (hp.mem_iff.2 (mcs (a := y) (l := b))) with h' | h'
     ·exact h'.symm
     ·exact (has _ _ (ha.1 y h') (hb.1 x h)).elim
   subst hxy
   rw [zow has ha.2 hb.2 (List.Perm.cons_inv hp)]
/-! ### orders -/
def zct (s a b : Int) : Bool := (s == 1 && decide (a > b)) || (s == 2 && decide (a < b))
def isB (s : Int) : Bool := s == 1 || s == 2
def zcF (s : Int) (a b : zaA) : Bool := if a.price = b.price then decide (a.seq < b.seq) else zct s a.price b.price
theorem zlL {s : Int} (a b c : zaA) (h1 : zcF s a b = true) (h2 : zcF s b c = true) : zcF s a c = true := by
 unfold zcF zct at *
 split at h1 <;> split at h2 <;> split <;> simp at * <;> omega
theorem zlM {s : Int} (a b : zaA) (h1 : zcF s a b = true) (h2 : zcF s b a = true) : False := by
 unfold zcF zct at *
 split at h1 <;> split at h2 <;> simp at * <;> omega
theorem zhr {s : Int} (hs : isB s = true) (a b : zaA) (h : a.seq ≠ b.seq) : zcF s a b = true ∨ zcF s b a = true := by
 unfold zcF zct isB at *
 simp at hs
 split <;> split <;> simp at * <;> omega
def cfO (a b : zaA) : Int := if zct a.side a.price b.price then -1 else if zct a.side b.price a.price then 1 else cmpI a.seq b.seq
theorem zlN {s : Int} (hs : isB s = true) {a b : zaA} (ha : a.side = s) (hb : b.side = s) : (cfO a b < 0) ↔ zcF s a b = true := by
 unfold cfO zcF zct cmpI isB at *
 subst ha
 simp at hs
 by_cases hp : a.price = b.price
 ·rw [if_pos hp, hp]
  simp
  split <;> (try split) <;> omega
 ·rw [if_neg hp]
  constructor
  ·intro h
   split at h
   ·assumption
   ·split at h
    ·omega
    ·rename_i h1 h2
     exfalso
     simp at h1 h2
     omega
  ·intro h
   rw [if_pos h]; omega
def insO (s : Int) (out : List zaA) (o : zaA) : List zaA := out.take (out.takeWhile fun x => zcF s x o).length ++ [o] ++ out.drop (out.takeWhile fun x => zcF s x o).length
def zb4 (s : Int) (o : zaA) : Bool := o.side == s
def zbf (s : Int) (l : List zaA) : List zaA := (l.filter (zb4 s)).foldl (insO s) []
def ze6 (l : List zaA) : Prop := l.Pairwise fun a b => a.seq ≠ b.seq
theorem ziy (s : Int) (out : List zaA) (o : zaA) : (insO s out o).Perm (o :: out) := zfT out o _
theorem zhs (s : Int) : ∀ (l out : List zaA), (l.foldl (insO s) out).Perm (l ++ out)
 | [], out => List.Perm.refl _
 | x :: l, out => by
   rw [List.foldl_cons]
   exact (zhs s l (insO s out x)).trans ((List.Perm.append_left l (ziy s out x)).trans List.perm_middle)
theorem zht {l r : List zaA} (hp : r.Perm l) (h : ze6 l) : ze6 r := (hp.pairwise_iff (fun {a b} hab e => hab e.symm)).2 h
theorem zj2 {s : Int} (hs : isB s = true) : ∀ (l out : List zaA), ze6 (l ++ out) → out.Pairwise (fun a b => zcF s a b = true) → (l.foldl (insO s) out).Pairwise (fun a b => zcF s a b = true)
 | [], out, _, h => h
 | x :: l, out, hu, h => by
   rw [List.foldl_cons]
   have hu2 : ze6 (l ++ insO s out x) := by
    have hp : (x :: l ++ out).Perm (l ++ insO s out x) := List.perm_middle.symm.trans (List.Perm.append_left l (ziy s out x).symm)
    exact zht hp.symm hu
   refine zj2 hs l (insO s out x) hu2 (zoS h (fun a b c => zlL a b c) (fun y hy => ?_) rfl)
   have hu3 : ze6 (x :: (l ++ out)) := hu
   unfold ze6 at hu3
   rw [List.pairwise_cons] at hu3
   exact zhr hs y x (fun e => hu3.1 y (mar _ hy) e.symm)
theorem zc4 (s : Int) (l : List zaA) : (zbf s l).Perm (l.filter (zb4 s)) := by
 have := zhs s (l.filter (zb4 s)) []
 rw [List.append_nil] at this; exact this
theorem znq {s : Int} (hs : isB s = true) {l : List zaA} (hu : ze6 l) : (zbf s l).Pairwise (fun a b => zcF s a b = true) :=
 zj2 hs _ [] (by rw [List.append_nil]; exact hu.sublist List.filter_sublist) List.Pairwise.nil
theorem zcU (s : Int) (l : List zaA) : (zbf s l).length ≤ l.length := by
 rw [(zc4 s l).length_eq]; exact List.length_filter_le _ _
theorem zc5 {s : Int} {l : List zaA} {o : zaA} (h : o ∈ zbf s l) : o ∈ l ∧ o.side = s := by
 have := (zc4 s l).mem_iff.1 h
 rw [List.mem_filter] at this
 exact ⟨this.1, by simpa [zb4] using this.2⟩
theorem zjp {s : Int} {l m : List zaA} (hu : ze6 l) (hv : ∀ o ∈ l, isB o.side = true) (hp : m.Perm (l.filter (zb4 s))) (hs : m.Pairwise (fun a b => ¬ cfO b a < 0)) : m = zbf s l := by
 by_cases hb : isB s = true
 ·refine zow (p := zcF s) (fun x y => zlM x y) ?_ (znq hb hu) (hp.trans (zc4 s l).symm)
  have hmu : ze6 m := zht hp (hu.sublist List.filter_sublist)
  have hms : ∀ o ∈ m, o.side = s := fun o ho => by
   have := hp.mem_iff.1 ho
   rw [List.mem_filter] at this
   simpa [zb4] using this.2
  refine List.Pairwise.imp_of_mem (fun {a b} ha hb' hab => ?_) (hs.and hmu)
  rcases zhr hb a b hab.2 with h | h
  ·exact h
  ·exact absurd ((zlN hb (hms b hb') (hms a ha)).2 h) hab.1
 ·have he : l.filter (zb4 s) = [] := by
   rw [List.filter_eq_nil_iff]
   intro o ho hos
   have := hv o ho
   simp only [zb4, beq_iff_eq] at hos
   rw [hos] at this
   exact hb this
  rw [he] at hp
  rw [List.perm_nil.1 hp]
  unfold zbf; rw [he]; rfl
/-! ### levels -/
structure Lvl where
 price : Int
 qty : Int
 deriving DecidableEq
def Lvl.enc (v : Lvl) : List Value := [.int .i64 v.price, .int .i64 v.qty]
theorem Lvl.enc_len (v : Lvl) : v.enc.length = 2 := rfl
theorem Lvl.enc_one (v : Lvl) : ∀ x ∈ v.enc, x.oneCell' = true := List.all_eq_true.1 (rfl : v.enc.all Value.oneCell' = true)
def zde (v : List Lvl) (o : zaA) : List Lvl := match v.getLast? with
 | some x => if x.price = o.price then v.dropLast ++ [⟨x.price, x.qty + o.left⟩] else v ++ [⟨o.price, o.left⟩]
 | none => [⟨o.price, o.left⟩]
def zbp (o : List zaA) : List Lvl := o.foldl zde []
theorem ziz (v : List Lvl) (o : zaA) : (zde v o).length ≤ v.length + 1 := by
 unfold zde
 split
 ·rename_i x hx
  have hne : v ≠ [] := fun e => by rw [e] at hx; cases hx
  split
  ·simp
   (try (have := List.length_pos_iff.2 hne; omega))
  ·simp
 ·simp
theorem zeK (o : List zaA) (x : zaA) : zbp (o ++ [x]) = zde (zbp o) x := by simp [zbp, List.foldl_append]
end Go.Proofs.YtakilgkpfjhfdaaGreat
namespace Go.Proofs.YtakilgkpfjhfdaaGreat
open Go Go.Sl
attribute [local irreducible] AW ES EP Ld RetQ
set_option maxRecDepth 100000
def za9 (p : Nat) (A : Option Addr) (c : Nat) (l : List zaA) (F : List zax) : List zax :=
 .blk p 106 [.slice A l.length c] :: .own A l.length c 52 6 (l.flatMap zaA.enc) :: F
theorem zbD {x y : zax} {h : List zax} (hx : x ∈ h) (hy : y ∈ h) : ∀ c ∈ [x, y], c ∈ h := fun c hc => by
 rcases List.mem_cons.1 hc with rfl | hc
 ·exact hx
 ·rw [List.mem_singleton.1 hc]; exact hy
theorem zfV (W : World) (h : List zax) : zaB Tryz.prog W 38 [] h (fun v h' => ∃ p A c, v = .pointer (some ⟨p, 0, none⟩) ∧ h' = za9 p A c [] h) := by
 refine zaB.conv (R := fun v h' => ∃ p, v = .pointer (some ⟨p, 0, none⟩) ∧ h' = .blk p 106 [.slice none 0 0] :: h) ?_ ?_
 ·refine zan Tryz.func38 rfl rfl Tryz.results38 Tryz.ntmps38 rfl rfl ?_
  repeat' (first | apply zae | apply zaa | apply zaj | apply zad | apply zab hT; iterate 4 exact rfl | apply zb7 hT; iterate 4 exact rfl | apply zaK; (iterate 5 exact rfl); intro _)
  apply ret1; exact rfl
  exact ⟨_, rfl, rfl⟩
 ·rintro v h' ⟨p, rfl, rfl⟩ w hw
  exact ⟨_, (hw.own_nil 52 6).perm sel1, p, none, 0, rfl, rfl⟩
theorem zd7 (W : World) (s : Int) : zaL Tryz.prog W 114 [.int .i64 s] [] (.bool (isB s)) := by
 refine zaL.ofD (fun h' hs => ?_)
 refine zan Tryz.func114 rfl rfl Tryz.results114 Tryz.ntmps114 rfl rfl ?_
 repeat' (first | apply zae | apply zaa | apply zaj | apply zad | apply zab hT; iterate 4 exact rfl | apply zaq; iterate 3 exact rfl | (apply zav; exact rfl; all_goals (intro hb; (try simp only [hb]); (first | replace hb := odt hb | replace hb := odf hb ); (try omega))))
 all_goals
  apply ret1; exact rfl
  refine ⟨?_, zar⟩
  simp [isB, *]
theorem zgj (W : World) (s a b : Int) : zaL Tryz.prog W 70 [.int .i64 s, .int .i64 a, .int .i64 b] [] (.bool (zct s a b)) := by
 refine zaL.ofD (fun h' hs => ?_)
 refine zan Tryz.func70 rfl rfl Tryz.results70 Tryz.ntmps70 rfl rfl ?_
 repeat' (first | apply zae | apply zaa | apply zaj | apply zad | apply zab hT; iterate 4 exact rfl | apply zaq; iterate 3 exact rfl | (apply zav; exact rfl; all_goals (intro hb; (try simp only [hb]); (first | replace hb := odt hb | replace hb := odf hb ); (try omega))))
 all_goals
  apply ret1; exact rfl
  refine ⟨?_, zar⟩
  simp [zct, *]
def okO (o : zaA) : Bool := decide (o.id ≥ 1) && decide (o.seq ≥ 1) && decide (o.price ≥ 1) && decide (o.price ≤ 1000000) && decide (o.left ≥ 1) && decide (o.left ≤ 1000000) && decide (o.owner ≥ 0) && isB o.side
theorem ziA (W : World) (o : zaA) : zaL Tryz.prog W 213 [.agg o.enc.toArray] [] (.bool (okO o)) := by
 refine zaL.ofD (fun h' hs => ?_)
 refine zan Tryz.func213 rfl rfl Tryz.results213 Tryz.ntmps213 rfl rfl ?_
 repeat' (first | apply zae | apply zaa | apply zaj | apply zad | apply zab hT; iterate 4 exact rfl | apply zaq; iterate 3 exact rfl | (apply zac (hs := ((zd7 W _).mono (by simp))); iterate 7 exact rfl) | (apply zal; (iterate 5 exact rfl); first | exact zaC hT rfl rfl mem0 rfl rfl ) | apply zaK; (iterate 5 exact rfl); intro _ | (apply zav; exact rfl; all_goals (intro hb; (try simp only [hb]); (first | replace hb := odt hb | replace hb := odf hb ); (try omega))))
 all_goals
  apply ret1; exact rfl
  refine ⟨?_, zat zar⟩
  simp [okO, *]
def hasO (id : Int) (o : zaA) : Bool := o.id == id
theorem zkE (W : World) (o : zaA) (g1 : Nat) (id : Int) : zaL Tryz.prog W 130 [.agg o.enc.toArray, .pointer (some ⟨g1, 0, none⟩)] [.blk g1 2 [.int .i64 id]] (.bool (hasO id o)) := by
 refine zaL.ofD (fun h' hs => ?_)
 have m1 := hs _ mem0
 refine zan Tryz.func130 rfl rfl Tryz.results130 Tryz.ntmps130 rfl rfl ?_
 repeat' (first | apply zae | apply zaa | apply zaj | apply zad | apply zab hT; iterate 4 exact rfl | (apply zal; (iterate 5 exact rfl); first | exact zaC hT rfl rfl mem0 rfl rfl ) | (apply zal; (iterate 5 exact rfl); first | exact zaC hT rfl rfl (mcm _ m1) rfl rfl ) | apply zaK; (iterate 5 exact rfl); intro _)
 apply ret1; exact rfl
 exact ⟨rfl, zat zar⟩
theorem zgk (W : World) (p : Nat) (A : Option Addr) (c : Nat) (l : List zaA) (id : Int) (hb : l.length ≤ 1000000) :
 zaL Tryz.prog W 72 [.pointer (some ⟨p, 0, none⟩), .int .i64 id] (za9 p A c l []) (.int .i64 (za4 (hasO id) l)) := by
 refine zaL.ofD (fun h' hs => ?_)
 have m1 := hs _ mem0
 have m2 := hs _ mem1
 refine zan Tryz.func72 rfl rfl Tryz.results72 Tryz.ntmps72 rfl rfl ?_
 refine zbm m2 (fun hl hnc hcc hsome hnone hone => ?_)
 have hr := zaJ.own (W := W) m2 hl hone
 have hq : ∀ g1, zaL Tryz.prog W 129 [.slice A l.length c, .func (.func 130) #[] #[.pointer (some ⟨g1, 0, none⟩)]] (.blk g1 2 [.int .i64 id] :: h') (.int .i64 (za4 (hasO id) l)) := fun g1 =>
  zdk W _ A _ c l rfl hr.cons _ [_] (hasO id) (fun x _ => (zkE W x g1 id).mono (by intro c hc; simp only [List.mem_cons, List.not_mem_nil, or_false] at hc; rcases hc with rfl; simp)) (by omega)
 repeat' (first | apply zae | apply zaa | apply zaj | apply zah | apply zad | apply zab hT; iterate 4 exact rfl | apply zac (hs := (hq _)); iterate 7 exact rfl | (apply zal; (iterate 5 exact rfl); first | exact zaC hT rfl rfl (mcm _ m1) rfl rfl ) | apply zaK; (iterate 5 exact rfl); intro _ | apply zag; iterate 2 exact rfl)
 apply ret1; exact rfl
 exact ⟨rfl, zat zar⟩
theorem znr (W : World) (p : Nat) (A : Option Addr) (c : Nat) (l : List zaA) :
 zaL Tryz.prog W 209 [.pointer (some ⟨p, 0, none⟩)] (za9 p A c l []) (.int .i64 l.length) := by
 refine zaL.ofD (fun h' hs => ?_)
 have m1 := hs _ mem0
 refine zan Tryz.func209 rfl rfl Tryz.results209 Tryz.ntmps209 rfl rfl ?_
 repeat' (first | apply zae | apply zaa | apply zaj | apply zah | apply zad | apply zab hT; iterate 4 exact rfl | (apply zal; (iterate 5 exact rfl); first | exact zaC hT rfl rfl m1 rfl rfl ) | apply zag; iterate 2 exact rfl)
 apply ret1; exact rfl
 exact ⟨rfl, zar⟩
/-! ### Add -/
def zbt (o x : zaA) : Bool := x.id == o.id || x.seq == o.seq
theorem zlO (W : World) (x o : zaA) (g1 : Nat) : zaL Tryz.prog W 215 [.agg x.enc.toArray, .pointer (some ⟨g1, 0, none⟩)] [.blk g1 52 o.enc] (.bool (zbt o x)) := by
 refine zaL.ofD (fun h' hs => ?_)
 have m1 := hs _ mem0
 refine zan Tryz.func215 rfl rfl Tryz.results215 Tryz.ntmps215 rfl rfl ?_
 repeat' (first | apply zae | apply zaa | apply zaj | apply zad | apply zab hT; iterate 4 exact rfl | apply zaq; iterate 3 exact rfl | (apply zal; (iterate 5 exact rfl); first | exact zaC hT rfl rfl mem0 rfl rfl ) | (apply zal; (iterate 5 exact rfl); first | exact zaC hT rfl rfl (mcm _ m1) rfl rfl ) | apply zaK; (iterate 5 exact rfl); intro _ | (apply zav; exact rfl; all_goals (intro hb; (try simp only [hb]); (first | replace hb := odt hb | replace hb := odf hb ); (try omega))))
 all_goals
  apply ret1; exact rfl
  refine ⟨?_, zat zar⟩
  simp [zbt, *]
def zfz (o : zaA) (l : List zaA) : Int := if okO o = false ∨ za4 (zbt o) l ≥ 0 then 1 else if l.length ≥ 64 then 3 else 0
def addO (o : zaA) (l : List zaA) : List zaA := if zfz o l = 0 then l ++ [o] else l
theorem zfW (W : World) (F : List zax) (p : Nat) (A : Option Addr) (c : Nat) (l : List zaA) (o : zaA) (hb : l.length ≤ 1000000) :
 zaB Tryz.prog W 197 [.pointer (some ⟨p, 0, none⟩), .agg o.enc.toArray] (za9 p A c l F) (fun v h' => v = .int .i64 (zfz o l) ∧ ∃ A' c', h' = za9 p A' c' (addO o l) F) := by
 refine zaB.dropTo ?_
 refine zan Tryz.func197 rfl rfl Tryz.results197 Tryz.ntmps197 rfl rfl ?_
 refine zbm (h := za9 p A c l F) mem1 (fun hl hnc hcc hsome hnone hone => ?_)
 have hq : ∀ g1, zaL Tryz.prog W 214 [.slice A l.length c, .func (.func 215) #[] #[.pointer (some ⟨g1, 0, none⟩)]] (.blk g1 52 o.enc :: za9 p A c l F) (.bool (decide (za4 (zbt o) l ≥ 0))) := fun g1 =>
  zdt W _ A _ c l rfl (zaJ.own mem2 hl hone) _ [_] (zbt o) (fun x _ => (zlO W x o g1).mono (by intro c hc; simp only [List.mem_cons, List.not_mem_nil, or_false] at hc; rcases hc with rfl; simp)) (by omega)
 have hok : ∀ h, zaL Tryz.prog W 213 [.agg o.enc.toArray] h (.bool (okO o)) := fun h => (ziA W o).mono (by simp)
 cases hO : okO o
 ·rw [hO] at hok
  have hE : zfz o l = 1 := by simp [zfz, hO]
  repeat' (first | apply zae | apply zaa | apply zaj | apply zad | apply zab hT; iterate 4 exact rfl | apply zaq; iterate 3 exact rfl | apply zac (hs := (hok _)); iterate 7 exact rfl | (apply zal; (iterate 5 exact rfl); first | exact zaQ hT rfl rfl mem0 rfl) | apply zaK; (iterate 5 exact rfl); intro _ | apply zak; iterate 2 exact rfl)
  apply ret1; exact rfl
  exact ⟨za9 p A c l F, zat zar, by rw [hE], A, c, by simp [addO, hE]⟩
 ·rw [hO] at hok
  by_cases hI : za4 (zbt o) l ≥ 0
  ·have hE : zfz o l = 1 := by simp [zfz, hI]
   rw [decide_eq_true hI] at hq
   repeat' (first | apply zae | apply zaa | apply zaj | apply zad | apply zab hT; iterate 4 exact rfl | apply zac (hs := (hok _)); iterate 7 exact rfl | apply zac (hs := (hq _)); iterate 7 exact rfl | (apply zal; (iterate 5 exact rfl); first | exact zaQ hT rfl rfl mem0 rfl) | (apply zal; (iterate 5 exact rfl); first | exact zaC hT rfl rfl mem1 rfl rfl ) | apply zaK; (iterate 5 exact rfl); intro _ | apply zak; iterate 2 exact rfl)
   apply ret1; exact rfl
   exact ⟨za9 p A c l F, zat zar, by rw [hE], A, c, by simp [addO, hE]⟩
  ·rw [decide_eq_false hI] at hq
   by_cases hM : l.length ≥ 64
   ·have hE : zfz o l = 3 := by simp [zfz, hO, hI, hM]
    have hd : decide (((l.length : Nat) : Int) ≥ 64) = true := by simp; omega
    repeat' (first | apply zae | apply zaa | apply zaj | apply zah | apply zad | apply zab hT; iterate 4 exact rfl | apply zac (hs := (hok _)); iterate 7 exact rfl | apply zac (hs := (hq _)); iterate 7 exact rfl | (apply zal; (iterate 5 exact rfl); first | exact zaQ hT rfl rfl mem0 rfl) | (apply zal; (iterate 5 exact rfl); first | exact zaC hT rfl rfl mem1 rfl rfl ) | apply zaK; (iterate 5 exact rfl); intro _ | apply zag; iterate 2 exact rfl | (apply zam; exact rfl; all_goals (intro hb; (try simp only [hb]); (first | replace hb := odt hb | replace hb := odf hb ); (try omega))))
    apply ret1; exact rfl
    exact ⟨za9 p A c l F, zat zar, by rw [hE], A, c, by simp [addO, hE]⟩
   ·have hE : zfz o l = 0 := by simp [zfz, hO, hI, hM]
    have hA : addO o l = l ++ [o] := by simp [addO, hE]
    have hd : decide (((l.length : Nat) : Int) ≥ 64) = false := by simp; omega
    repeat' (first | apply zae | apply zaa | apply zaj | apply zah | apply zad | apply zab hT; iterate 4 exact rfl | apply zaM [] [] hmix; decide +kernel | apply zac (hs := (hok _)); iterate 7 exact rfl | apply zac (hs := (hq _)); iterate 7 exact rfl | apply zao hT; (iterate 12 exact rfl); intro g | (apply zbg hT; (iterate 10 exact rfl); (first | exact selS (selS sel1) ); exact zaJ.own mem0 rfl (zaA.enc_one o); omega; (show (_ : Nat) * 48 ≤ _; omega); intro A' c') | (apply zaF hT; (iterate 6 exact rfl); (first | exact selS (selS sel1) ); (iterate 3 exact rfl); exact nle rfl) | (apply zal; (iterate 5 exact rfl); first | exact zaQ hT rfl rfl mem0 rfl) | (apply zal; (iterate 5 exact rfl); first | exact zaC hT rfl rfl mem1 rfl rfl ) | apply zaK; (iterate 5 exact rfl); intro _ | apply zag; iterate 2 exact rfl | (apply zam; exact rfl; all_goals (intro hb; (try simp only [hb]); (first | replace hb := odt hb | replace hb := odf hb ); (try omega))))
    apply ret1; exact rfl
    refine ⟨za9 p A' c' (addO o l) F, ?_, by rw [hE], A', c', rfl⟩
    rw [hA, za9, List.length_append, List.flatMap_append]
    apply zay; (first | exact sel0)
    apply zay; (first | exact sel0)
    (repeat (first | exact zar | apply zat))
/-! ### Get, Drop, Less -/
def zqQ : zaA := ⟨0, 0, 0, 0, 0, 0⟩
def gotO : Option zaA → Value
 | some x => .tuple #[.agg x.enc.toArray, .bool true]
 | none => .tuple #[.agg zqQ.enc.toArray, .bool false]
def getO (id : Int) (l : List zaA) : Option zaA := l.find? (hasO id)
theorem zeL {α : Type} {p : α → Bool} (r : List α) : (za4 p r = -1 ∧ r.find? p = none) ∨ (∃ (i : Nat) (x : α), za4 p r = i ∧ r[i]? = some x ∧ p x = true ∧ r.find? p = some x) := by
 by_cases h : za4 p r < 0
 ·left
  have := zhT (p := p) (l := r)
  refine ⟨by omega, ?_⟩
  rw [List.find?_eq_none]
  intro x hx
  have := zcu.1 h x hx
  simp [this]
 ·right
  obtain ⟨i, hi⟩ := Int.eq_ofNat_of_zero_le (show 0 ≤ za4 p r by omega)
  obtain ⟨x, hx, hp, hb⟩ := zeH (p := p) (l := r) (i := i) hi
  refine ⟨i, x, hi, hx, hp, ?_⟩
  rw [List.find?_eq_some_iff_getElem]
  obtain ⟨hlt, hxe⟩ := List.getElem?_eq_some_iff.1 hx
  refine ⟨hp, i, hlt, hxe, fun j hj => ?_⟩
  have := hb j r[j] hj (List.getElem?_eq_getElem (by omega))
  simp [this]
theorem zj3 (W : World) (p : Nat) (A : Option Addr) (c : Nat) (l : List zaA) (id : Int) (hb : l.length ≤ 1000000) :
 zaL Tryz.prog W 99 [.pointer (some ⟨p, 0, none⟩), .int .i64 id] (za9 p A c l []) (gotO (getO id l)) := by
 refine zaL.ofD (fun h' hs => ?_)
 have m1 := hs _ mem0
 have m2 := hs _ mem1
 refine zan Tryz.func99 rfl rfl Tryz.results99 Tryz.ntmps99 rfl rfl ?_
 refine zbm m2 (fun hl hnc hcc hsome hnone hone => ?_)
 have hr := zaJ.own (W := W) m2 hl hone
 have hfind := (zgk W p A c l id hb).mono (h' := h') hs
 unfold getO
 rcases zeL (p := hasO id) l with ⟨hi, hf⟩ | ⟨i, x, hi, hx, hp, hf⟩
 ·rw [hi] at hfind
  rw [hf]
  repeat' (first | apply zae | apply zaa | apply zaj | apply zad | apply zab hT; iterate 4 exact rfl | apply zaI hT; (iterate 5 exact rfl); intro g4 | apply zac (hs := (hfind.mono (fun c hc => .tail _ hc))); iterate 7 exact rfl | apply zb7 hT; iterate 4 exact rfl | (apply zaF hT; (iterate 6 exact rfl); (first | exact sel0 ); (iterate 3 exact rfl); exact nle rfl) | apply zak; iterate 2 exact rfl)
  all_goals first
   | (apply zew; exact rfl; exact zaQ hT rfl rfl mem0 rfl; exact rfl; exact ⟨rfl, zat zar⟩)
   | (exfalso; omega)
 ·have hlt := (List.getElem?_eq_some_iff.1 hx).1
  rw [hi] at hfind
  rw [hf]
  obtain ⟨g, hA⟩ := hsome (by omega)
  have hA2 : A.isSome = true := by rw [hA]; rfl
  have hx2 : l[((i : Nat) : Int).toNat]? = some x := by simpa using hx
  repeat' (first | apply zae | apply zaa | apply zaj | apply zah | apply zad | apply zab hT; iterate 4 exact rfl | apply zaI hT; (iterate 5 exact rfl); intro g4 | apply zac (hs := (hfind.mono (fun c hc => .tail _ hc))); iterate 7 exact rfl | apply zaS hT; (iterate 8 exact rfl); (iterate 2 omega); exact hA2 | apply zal; (iterate 5 exact rfl); exact zaY hT rfl rfl hr.cons zaA.enc_len rfl hx2 rfl | (apply zaF hT; (iterate 6 exact rfl); (first | exact sel0 ); (iterate 3 exact rfl); exact nle rfl) | (apply zal; (iterate 5 exact rfl); first | exact zaC hT rfl rfl (mcm _ m1) rfl rfl ) | apply zag; iterate 2 exact rfl)
  all_goals first
   | (apply zew; exact rfl; exact zaQ hT rfl rfl mem0 rfl; exact rfl; exact ⟨rfl, zat zar⟩)
   | (exfalso; omega)
def zbu (id : Int) (l : List zaA) : List zaA := if za4 (hasO id) l < 0 then l else l.take (za4 (hasO id) l).toNat ++ l.drop ((za4 (hasO id) l).toNat + 1)
set_option maxHeartbeats 1000000 in
theorem ze7 (W : World) (F : List zax) (p : Nat) (A : Option Addr) (c : Nat) (l : List zaA) (id : Int) (hb : l.length ≤ 1000000) :
 zaB Tryz.prog W 44 [.pointer (some ⟨p, 0, none⟩), .int .i64 id] (za9 p A c l F) (fun v h' => v = gotO (getO id l) ∧ ∃ A' c', h' = za9 p A' c' (zbu id l) F) := by
 refine zaB.dropTo ?_
 refine zan Tryz.func44 rfl rfl Tryz.results44 Tryz.ntmps44 rfl rfl ?_
 refine zbm (h := za9 p A c l F) mem1 (fun hl hnc hcc hsome hnone hone => ?_)
 have hr : zaJ W (za9 p A c l F) A l.length 6 (l.flatMap zaA.enc) := zaJ.own mem1 hl hone
 have hfind := (zgk W p A c l id hb).mono (h' := za9 p A c l F) (zbD mem0 mem1)
 unfold getO zbu
 rcases zeL (p := hasO id) l with ⟨hi, hf⟩ | ⟨i, x, hi, hx, hp, hf⟩
 ·rw [hi] at hfind ⊢
  rw [hf]
  repeat' (first | apply zae | apply zaa | apply zaj | apply zad | apply zab hT; iterate 4 exact rfl | apply zaI hT; (iterate 5 exact rfl); intro g4 | apply zac (hs := (hfind.mono (fun c hc => .tail _ hc))); iterate 7 exact rfl | apply zb7 hT; iterate 4 exact rfl | (apply zaF hT; (iterate 6 exact rfl); (first | exact sel0 ); (iterate 3 exact rfl); exact nle rfl) | apply zak; iterate 2 exact rfl)
  all_goals first
   | (apply zew; exact rfl; exact zaQ hT rfl rfl mem0 rfl; exact rfl; exact ⟨za9 p A c l F, zat zar, rfl, A, c, rfl⟩)
   | (exfalso; omega)
 ·have hlt := (List.getElem?_eq_some_iff.1 hx).1
  rw [hi] at hfind ⊢
  rw [hf]
  obtain ⟨g, hA⟩ := hsome (by omega)
  have hA2 : A.isSome = true := by rw [hA]; rfl
  have hx2 : l[((i : Nat) : Int).toNat]? = some x := by simpa using hx
  have hni : ¬ ((i : Nat) : Int) < 0 := by omega
  have hdel : ∀ X Y, zaB Tryz.prog W 73 [.slice A l.length c, .int .i64 i, .int .i64 (i + 1)] (X :: Y :: za9 p A c l F) _ := fun X Y =>
   (zjo W (X :: Y :: .blk p 106 [.slice A l.length c] :: F) A l.length c i (i + 1) (l.flatMap zaA.enc) (by omega) (by omega) (by omega)).perm (selS (selS (selS sel0)))
  have hlen : (l.take i ++ l.drop (i + 1)).length = l.length - (((i : Nat) : Int) + 1).toNat + ((i : Nat) : Int).toNat := by simp; omega
  have hcs : (l.flatMap zaA.enc).take (((i : Nat) : Int).toNat * 6) ++ (l.flatMap zaA.enc).drop ((((i : Nat) : Int) + 1).toNat * 6) = (l.take i ++ l.drop (i + 1)).flatMap zaA.enc := by
   rw [show (((i : Nat) : Int) + 1).toNat = i + 1 by omega, Int.toNat_natCast, zci zaA.enc_len, zc6 zaA.enc_len, List.flatMap_append]
  have hln : l.length - ((((i : Nat) : Int) + 1).toNat - ((i : Nat) : Int).toNat) = (l.take i ++ l.drop (i + 1)).length := by simp; omega
  rw [if_neg hni, Int.toNat_natCast]
  repeat' (first | apply zae | apply zaa | apply zaj | apply zah | apply zad | apply zab hT; iterate 4 exact rfl | apply zaN hT; (iterate 4 exact rfl); (iterate 2 omega) | apply zaI hT; (iterate 5 exact rfl); intro g4 | apply zac (hs := (hfind.mono (fun c hc => .tail _ hc))); iterate 7 exact rfl | apply zaS hT; (iterate 8 exact rfl); (iterate 2 omega); exact hA2 | (apply zal; (iterate 5 exact rfl); first | exact zaY hT rfl rfl hr.cons zaA.enc_len rfl hx2 rfl | exact zaQ hT rfl rfl mem2 rfl) | apply zaz (hs := (hdel _ _)); (iterate 7 exact rfl); rintro _ _ ⟨rfl, rfl⟩ | (apply zaF hT; (iterate 6 exact rfl); (first | exact sel0 | exact selS (selS sel1) ); (iterate 3 exact rfl); exact nle rfl) | (apply zal; (iterate 5 exact rfl); first | exact zaC hT rfl rfl mem1 rfl rfl ) | (apply zal; (iterate 5 exact rfl); first | exact zaC hT rfl rfl mem2 rfl rfl ) | apply zag; iterate 2 exact rfl)
  all_goals first
   | (exfalso; omega)
   | (apply zew; exact rfl; exact zaQ hT rfl rfl mem0 rfl; exact rfl
      refine ⟨za9 p A c (l.take i ++ l.drop (i + 1)) F, ?_, rfl, A, c, rfl⟩
      rw [za9, ← hln, ← hcs]
      apply zay; (first | exact sel1)
      apply zay; (first | exact sel1)
      (repeat (first | exact zar | apply zat)))
def zdu (id left : Int) (l : List zaA) : Int := match getO id l with
 | none => 4
 | some x => if left < 1 ∨ left > x.left then 1 else 0
def zcd (id left : Int) (l : List zaA) : List zaA := match getO id l with
 | none => l
 | some x => if zdu id left l = 0 then l.set (za4 (hasO id) l).toNat { x with left := left } else l
theorem ziB (W : World) (F : List zax) (p : Nat) (A : Option Addr) (c : Nat) (l : List zaA) (id left : Int) (hb : l.length ≤ 1000000) :
 zaB Tryz.prog W 145 [.pointer (some ⟨p, 0, none⟩), .int .i64 id, .int .i64 left] (za9 p A c l F) (fun v h' => v = .int .i64 (zdu id left l) ∧ h' = za9 p A c (zcd id left l) F) := by
 refine zaB.dropTo ?_
 refine zan Tryz.func145 rfl rfl Tryz.results145 Tryz.ntmps145 rfl rfl ?_
 refine zbm (h := za9 p A c l F) mem1 (fun hl hnc hcc hsome hnone hone => ?_)
 have hr : zaJ W (za9 p A c l F) A l.length 6 (l.flatMap zaA.enc) := zaJ.own mem1 hl hone
 have hfind := (zgk W p A c l id hb).mono (h' := za9 p A c l F) (zbD mem0 mem1)
 rcases zeL (p := hasO id) l with ⟨hi, hf⟩ | ⟨i, x, hi, hx, hp, hf⟩
 ·have hE : zdu id left l = 4 := by simp [zdu, getO, hf]
  have hL : zcd id left l = l := by simp [zcd, getO, hf]
  rw [hi] at hfind
  repeat' (first | apply zae | apply zaa | apply zaj | apply zah | apply zaf | apply zad | apply zab hT; iterate 4 exact rfl | apply zac (hs := hfind); iterate 7 exact rfl | apply zak; iterate 2 exact rfl | apply zag; iterate 2 exact rfl)
  all_goals first
   | (exfalso; omega)
   | (apply ret1; exact rfl; exact ⟨_, zar, by rw [hE], by rw [hL]⟩)
 ·have hlt := (List.getElem?_eq_some_iff.1 hx).1
  have hg : getO id l = some x := hf
  rw [hi] at hfind
  obtain ⟨g, hA⟩ := hsome (by omega)
  have hA2 : A.isSome = true := by rw [hA]; rfl
  have hx2 : l[((i : Nat) : Int).toNat]? = some x := by simpa using hx
  have hlay : lay (l.flatMap zaA.enc) (((i : Nat) : Int).toNat * 6 + 5) [.int .i64 left] = (l.set i { x with left := left }).flatMap zaA.enc := by
   rw [Int.toNat_natCast, zbS zaA.enc_len (x' := { x with left := left }) hx (Nat.le_of_ble_eq_true rfl) rfl]
  by_cases hbad : left < 1 ∨ left > x.left
  ·have hE : zdu id left l = 1 := by simp [zdu, hg, hbad]
   have hL : zcd id left l = l := by simp [zcd, hg, hE]
   repeat' (first | apply zae | apply zaa | apply zaj | apply zah | apply zaf | apply zad | apply zab hT; iterate 4 exact rfl | apply zaq; iterate 3 exact rfl | apply zac (hs := hfind); iterate 7 exact rfl | apply zaS hT; (iterate 8 exact rfl); (iterate 2 omega); exact hA2 | (apply zal; (iterate 5 exact rfl); exact zbb hT rfl rfl hr zaA.enc_len (zaW _ _ _) hx2 (by decide) rfl) | (apply zal; (iterate 5 exact rfl); first | exact zaC hT rfl rfl mem0 rfl rfl ) | apply zak; iterate 2 exact rfl | apply zag; iterate 2 exact rfl | (apply zav; exact rfl; all_goals (intro hb; (try simp only [hb]); (first | replace hb := odt hb | replace hb := odf hb ); (try omega))) | (apply zam; exact rfl; all_goals (intro hb; (try simp only [hb]); (first | replace hb := odt hb | replace hb := odf hb ); (try omega))))
   all_goals first
    | (exfalso; omega)
    | (apply ret1; exact rfl; exact ⟨_, zar, by rw [hE], by rw [hL]⟩)
  ·have hE : zdu id left l = 0 := by simp [zdu, hg, hbad]
   have hL : zcd id left l = l.set i { x with left := left } := by simp [zcd, hg, hE, hi]
   repeat' (first | apply zae | apply zaa | apply zaj | apply zah | apply zaf | apply zad | apply zab hT; iterate 4 exact rfl | apply zac (hs := hfind); iterate 7 exact rfl | apply zaS hT; (iterate 8 exact rfl); (iterate 2 omega); exact hA2 | (apply zal; (iterate 5 exact rfl); exact zbb hT rfl rfl hr zaA.enc_len (zaW _ _ _) hx2 (by decide) rfl) | (apply zbs hT; (iterate 6 exact rfl); (first | exact sel1 ); exact zaW _ _ _; exact rfl; exact rfl; (show (((i : Nat) : Int).toNat * 6 + 5) + 1 ≤ l.length * 6; omega); omega) | (apply zal; (iterate 5 exact rfl); first | exact zaC hT rfl rfl mem0 rfl rfl ) | apply zag; iterate 2 exact rfl | (apply zav; exact rfl; all_goals (intro hb; (try simp only [hb]); (first | replace hb := odt hb | replace hb := odf hb ); (try omega))) | (apply zam; exact rfl; all_goals (intro hb; (try simp only [hb]); (first | replace hb := odt hb | replace hb := odf hb ); (try omega))))
   all_goals first
    | (exfalso; omega)
    | (apply ret1; exact rfl
       refine ⟨za9 p A c (zcd id left l) F, ?_, by rw [hE], rfl⟩
       rw [hL, za9, ← hlay, List.length_set]
       apply zay; (first | exact sel1)
       apply zay; (first | exact sel0)
       (repeat (first | exact zar)))
end Go.Proofs.YtakilgkpfjhfdaaGreat
namespace Go.Sl
open Go Go.RowKit Go.Sort Go.Proofs Go.Shelf
theorem zhu {α : Type} [Inhabited α] {enc : α → List Value} {k : Nat} (hk : ∀ x, (enc x).length = k) (d : Array α) : (flatK enc k d).toList = d.toList.flatMap enc := by
 apply List.ext_getElem?
 intro t
 have hl := zdf (enc := enc) hk d.toList
 by_cases ht : t < d.size * k
 ·have k0 : 0 < k := by
   rcases Nat.eq_zero_or_pos k with h | h
   ·subst h; simp at ht
   ·exact h
  have hi : t / k < d.size := (Nat.div_lt_iff_lt_mul k0).2 ht
  have hx : d.toList[t / k]? = some d[t / k]! := by
   rw [Array.getElem?_toList, getElem!_pos d _ hi]; simp [hi]
  have e := zf9 hk d.toList (t / k) (t % k) _ hx (Nat.mod_lt _ k0)
  rw [Nat.div_add_mod' t k] at e
  rw [e]
  have h1 := get_flatK enc k d t ht
  have hs : t < (flatK enc k d).size := by simpa using ht
  rw [Array.getElem?_toList, Array.getElem?_eq_getElem hs, ← getElem!_pos _ t hs, h1]
  have hm : t % k < (enc d[t / k]!).length := by rw [hk]; exact Nat.mod_lt _ k0
  rw [List.getElem?_eq_getElem hm, getElem!_pos (enc d[t / k]!) (t % k) hm]
 ·rw [List.getElem?_eq_none (by simp; omega), List.getElem?_eq_none (by rw [hl]; simp; omega)]
theorem zjq {α : Type} [Inhabited α] {d d' : Array α} (h : PermIn 0 d.size d d') : d'.toList.Perm d.toList := by
 obtain ⟨h1, _, h3⟩ := h
 have e1 : d'.extract 0 d.size = d' := by rw [← h1]; simp
 have e2 : d.extract 0 d.size = d := by simp
 rw [e1, e2] at h3
 exact h3
theorem zhW {α : Type} [Inhabited α] {lt : α → α → Bool} {d' : Array α} {n : Nat} (h : SortedIn lt 0 n d') (hn : d'.size = n) : d'.toList.Pairwise fun a b => lt b a = false := by
 rw [List.pairwise_iff_getElem]
 intro i j hi hj hij
 have hj' : j < d'.size := by simpa using hj
 have := h i j (Nat.zero_le _) hij (by omega)
 rw [getElem!_pos d' j hj', getElem!_pos d' i (by omega)] at this
 simpa using this
section
variable {P : Program} {W w : World} {F : List zax} {α : Type} [Inhabited α] {enc : α → List Value} {k : Nat}
theorem zlP {g m : Nat} {os : Array Obj} {cur : Array Value} {t : TypeId} {fr : Nat × Nat} (d : Array α) (hb : w.heap[g]? = some (.cells cur t fr)) :
 (sortWorldK enc k w g 0 m d os).heap[g]? = some (.cells (putCells id 0 (flatK enc k d) cur) t fr) := by
 have hg : g < w.heap.size := (Array.getElem?_eq_some_iff.1 hb).1
 unfold sortWorldK putRowK
 rw [Go.Sort.heap_grow_old _ _ (by simpa using hg)]
 simp [putRow, mapBlock, Sort.ahead, Array.getElem?_modify, hb, onCells]
theorem ziC {g m : Nat} {os : Array Obj} (d : Array α) : w.grownBy (sortWorldK enc k w g 0 m d os) (some g) := by
 unfold sortWorldK putRowK
 refine ⟨rfl, rfl, rfl, by simp, fun j hj hne => ?_⟩
 rw [Go.Sort.heap_grow_old _ _ (by simpa using hj)]
 have : g ≠ j := fun e => hne (by rw [e])
 simp [putRow, mapBlock, Sort.ahead, Array.getElem?_modify, this]
theorem zns {g n c m : Nat} {t : TypeId} {os : Array Obj} {l : List α} (hk : ∀ x, (enc x).length = k) (h1 : ∀ x, ∀ v ∈ enc x, v.oneCell' = true) (hn : l.length = n) (hw : Rep W (.own (some ⟨g, 0, none⟩) n c t k (l.flatMap enc) :: F) w) (d' : Array α) (hd : d'.size = n) :
 Rep W (.own (some ⟨g, 0, none⟩) n c t k (d'.toList.flatMap enc) :: F) (sortWorldK enc k w g 0 m d' os) := by
 have ho := hw.holds _ mem0
 rcases ho.1.2 with ⟨hv, _⟩ | ⟨g', cap, cur, hv, hbb, hgb, hnc, hcm, hcs, htk⟩
 ·cases hv
 ·injection hv with hA _ hc
  injection hA with hA
  injection hA with hA _ _
  subst hA hc
  have hlen : (d'.toList.flatMap enc).length = n * k := by rw [zdf hk]; simp [hd]
  have hle : n * k ≤ cur.size := by rw [hcs]; exact Nat.mul_le_mul_right k hnc
  refine hw.change (ziC d') (fun j e => by simp [zax.keys]; exact (Option.some.inj e).symm) ⟨⟨hlen, .inr ⟨g, c, _, rfl, hbb, zlP d' hgb, hnc, hcm, by simp [putCells, hcs], ?_⟩⟩, fun v hv => ?_⟩ (fun j hj => .inl (by simpa [zax.keys] using hj))
  ·rw [← zhu hk d']
   apply List.ext_getElem?
   intro j
   have hsz : (flatK enc k d').size = n * k := by simp [hd]
   by_cases hj : j < n * k
   ·rw [List.getElem?_take_of_lt hj, Array.getElem?_toList, Array.getElem?_toList]
    have hjc : j < cur.size := by omega
    have hjf : j < (flatK enc k d').size := by omega
    simp [putCells, hjc, hjf]
    rw [if_pos (by rw [hd]; exact hj), Array.getElem?_eq_getElem hjf, getElem!_pos _ j hjf]
   ·rw [List.getElem?_take_eq_none (by omega), List.getElem?_eq_none (by simp [hd]; omega)]
  ·obtain ⟨x, _, hx⟩ := List.mem_flatMap.1 hv
   exact h1 x v hx
theorem sort_holds {g n c : Nat} {t : TypeId} {l : List α} (hk : ∀ x, (enc x).length = k) (hn : l.length = n) (hw : Rep W (.own (some ⟨g, 0, none⟩) n c t k (l.flatMap enc) :: F) w) : HoldsK enc k w g 0 l.toArray ∧ g < w.heap.size := by
 have ho := hw.holds _ mem0
 rcases ho.1.2 with ⟨hv, _⟩ | ⟨g', cap, cur, hv, hbb, hgb, hnc, hcm, hcs, htk⟩
 ·cases hv
 ·injection hv with hA _ hc
  injection hA with hA
  injection hA with hA _ _
  subst hA hc
  refine ⟨fun j hj => ?_, (Array.getElem?_eq_some_iff.1 hgb).1⟩
  have hj' : j < n * k := by simpa [hn] using hj
  refine ⟨?_, by simp [World.frozen?, hgb]⟩
  have h2 : (flatK enc k l.toArray).toList = l.flatMap enc := by rw [zhu hk]
  have h3 : (cur.toList.take (n * k))[j]? = ((flatK enc k l.toArray).toList)[j]? := by rw [htk, h2]
  rw [List.getElem?_take_of_lt hj', Array.getElem?_toList, Array.getElem?_toList] at h3
  simp only [World.cell?, hgb, Nat.zero_add, Option.isSome_none, Bool.false_eq_true, if_false]
  rw [h3, Array.getElem?_eq_getElem hj, getElem!_pos _ j hj]
  rfl
theorem zpw {ρ : Ren} (L : SlLaysF0.n6 P ρ) (hf : zlr P (ρ.f 6)) (aE : ∀ w, (isAgg (ρ.t 24)).run P w = .ok true w) (zE : ∀ w, (Go.sizeOf (ρ.t 24)).run P w = .ok k w) (hk : ∀ x, (enc x).length = k) (h1 : ∀ x, ∀ v ∈ enc x, v.oneCell' = true) (cf : α → α → Int) (hO : SWO (ltOf cf)) (g : Nat)
 (eg : ∀ args w, (callFunc g args).run P w = .ok (.enter g args) w) (hcmp : ∀ (x y : α) (W : World), Calls P g #[.agg (enc x).toArray, .agg (enc y).toArray] W fun e w' => e = .returned (.int .i64 (cf x y)) ∧ ∃ q os', w' = grow (W.drewN q) os')
 (A : Option Addr) (c : Nat) (t : TypeId) (l : List α) (hb : l.length ≤ 1000000) :
 zaB P W (ρ.f 6) [.slice A l.length c, .func (.func g) #[] #[]] (.own A l.length c t k (l.flatMap enc) :: F) (fun v h' => v = .tuple #[] ∧ ∃ l' : List α, l'.Perm l ∧ l'.Pairwise (fun a b => ltOf cf b a = false) ∧ h' = .own A l'.length c t k (l'.flatMap enc) :: F) := by
 refine ⟨hf, fun w hw => ?_⟩
 cases l with
 | nil => exact (AnyF.slices_SortFunc_none L A c _ w).mono fun e w' ⟨he, hww⟩ => ⟨_, _, he, ⟨rfl, [], List.Perm.refl _, List.Pairwise.nil, rfl⟩, by rw [hww]; exact hw⟩
 | cons x0 l0 =>
   generalize hl : x0 :: l0 = l at *
   have hpos : 0 < l.length := by rw [← hl]; simp
   obtain ⟨g', hA⟩ := (hw.ownF mem0).at_ hpos
   subst hA
   obtain ⟨hH, hblk⟩ := sort_holds hk rfl hw
   have hlays : CmpLays P g #[] enc k cf g' 0 l.toArray.size w := fun m os dk _ x y => by simpa using hcmp x y _
   have hcon := AnyQ.slices_SortFunc L k aE zE enc hk h1 cf hO g #[] g' 0 c l.toArray w eg hlays hH hblk (by simp; omega)
   refine hcon.mono ?_
   rintro e w' ⟨rfl, d', n, os, hp, hs, rfl⟩
   have hd : d'.size = l.length := by have := hp.1; simpa using this
   refine ⟨_, _, rfl, ⟨rfl, d'.toList, by simpa using zjq hp, zhW hs (by simpa using hd), rfl⟩, ?_⟩
   have := zns (m := n) (os := os) hk h1 rfl hw d' hd
   simpa [hd] using this
end
end Go.Sl
namespace Go.Proofs.YtakilgkpfjhfdaaGreat
open Go.Shelf
def zlQ : Go.Shelf.Ren := ⟨fun | 6 => 42 | 15 => 69 | 14 => 68 | 28 => 126 | 29 => 127 | 20 => 118 | 21 => 119 | 22 => 120 | 23 => 121 | 24 => 122 | 25 => 123 | 26 => 124 | 27 => 125 | 46 => 163 | 47 => 164 | 48 => 165 | 49 => 166 | 50 => 167 | 57 => 191 | n => n, fun | 22 => 47 | 24 => 52 | 25 => 108 | 3 => 3 | 39 => 145 | 0 => 0 | 53 => 195 | 55 => 66 | 4 => 4 | 46 => 189 | 45 => 188 | 50 => 150 | 5 => 5 | 9 => 9 | 66 => 229 | 70 => 232 | 76 => 263 | 77 => 264 | n => n, fun | n => n⟩
theorem zqR : Go.Proofs.SlLaysF0.n6 Tryz.prog zlQ := {
 mixed := by kernel_rfl
 f6 := ⟨Tryz.f42.name, by decide, Tryz.func42.trans (congrArg some (by kernel_rfl))⟩
 f14 := ⟨Tryz.f68.name, by decide, Tryz.func68.trans (congrArg some (by kernel_rfl))⟩
 f15 := Tryz.func69.trans (congrArg some (by kernel_rfl))
 f20 := ⟨Tryz.f118.name, by decide, Tryz.func118.trans (congrArg some (by kernel_rfl))⟩
 f21 := ⟨Tryz.f119.name, by decide, Tryz.func119.trans (congrArg some (by kernel_rfl))⟩
 f22 := ⟨Tryz.f120.name, by decide, Tryz.func120.trans (congrArg some (by kernel_rfl))⟩
 f23 := ⟨Tryz.f121.name, by decide, Tryz.func121.trans (congrArg some (by kernel_rfl))⟩
 f24 := ⟨Tryz.f122.name, by decide, Tryz.func122.trans (congrArg some (by kernel_rfl))⟩
 f25 := ⟨Tryz.f123.name, by decide, Tryz.func123.trans (congrArg some (by kernel_rfl))⟩
 f26 := ⟨Tryz.f124.name, by decide, Tryz.func124.trans (congrArg some (by kernel_rfl))⟩
 f27 := ⟨Tryz.f125.name, by decide, Tryz.func125.trans (congrArg some (by kernel_rfl))⟩
 f28 := Tryz.func126.trans (congrArg some (by kernel_rfl))
 f29 := Tryz.func127.trans (congrArg some (by kernel_rfl))
 f46 := ⟨Tryz.f163.name, by decide, Tryz.func163.trans (congrArg some (by kernel_rfl))⟩
 f47 := Tryz.func164.trans (congrArg some (by kernel_rfl))
 f48 := Tryz.func165.trans (congrArg some (by kernel_rfl))
 f49 := ⟨Tryz.f166.name, by decide, Tryz.func166.trans (congrArg some (by kernel_rfl))⟩
 f50 := ⟨Tryz.f167.name, by decide, Tryz.func167.trans (congrArg some (by kernel_rfl))⟩
 f57 := ⟨Tryz.f191.name, by decide, Tryz.func191.trans (congrArg some (by kernel_rfl))⟩
 t0 := Tryz.underlying0
 a0 := Tryz.isAgg0
 z0 := Tryz.sizeOf0
 v0 := Tryz.zeroValue0
 t3 := Tryz.underlying3
 a3 := Tryz.isAgg3
 z3 := Tryz.sizeOf3
 v3 := Tryz.zeroValue3
 t4 := Tryz.underlying4
 a4 := Tryz.isAgg4
 z4 := Tryz.sizeOf4
 v4 := Tryz.zeroValue4
 t5 := Tryz.underlying5
 a5 := Tryz.isAgg5
 z5 := Tryz.sizeOf5
 v5 := Tryz.zeroValue5
 t9 := Tryz.underlying9
 a9 := Tryz.isAgg9
 z9 := Tryz.sizeOf9
 v9 := Tryz.zeroValue9
 t22 := Tryz.underlying47
 a22 := Tryz.isAgg47
 z22 := Tryz.sizeOf47
 v22 := Tryz.zeroValue47
 t25 := Tryz.underlying108
 a25 := Tryz.isAgg108
 z25 := Tryz.sizeOf108
 v25 := Tryz.zeroValue108
 t39 := Tryz.underlying145
 a39 := Tryz.isAgg145
 z39 := Tryz.sizeOf145
 v39 := Tryz.zeroValue145
 t45 := Tryz.underlying188
 a45 := Tryz.isAgg188
 z45 := Tryz.sizeOf188
 v45 := Tryz.zeroValue188
 t46 := Tryz.underlying189
 a46 := Tryz.isAgg189
 z46 := Tryz.sizeOf189
 v46 := Tryz.zeroValue189
 t50 := Tryz.underlying150
 a50 := Tryz.isAgg150
 z50 := Tryz.sizeOf150
 v50 := Tryz.zeroValue150
 t53 := Tryz.underlying195
 a53 := Tryz.isAgg195
 z53 := Tryz.sizeOf195
 v53 := Tryz.zeroValue195
 t55 := Tryz.underlying66
 a55 := Tryz.isAgg66
 z55 := Tryz.sizeOf66
 v55 := Tryz.zeroValue66
 t66 := Tryz.underlying229
 a66 := Tryz.isAgg229
 z66 := Tryz.sizeOf229
 v66 := Tryz.zeroValue229
 t70 := Tryz.underlying232
 a70 := Tryz.isAgg232
 z70 := Tryz.sizeOf232
 v70 := Tryz.zeroValue232
 t76 := Tryz.underlying263
 a76 := Tryz.isAgg263
 z76 := Tryz.sizeOf263
 v76 := Tryz.zeroValue263
 t77 := Tryz.underlying264
 a77 := Tryz.isAgg264
 z77 := Tryz.sizeOf264
 v77 := Tryz.zeroValue264 }
end Go.Proofs.YtakilgkpfjhfdaaGreat
namespace Go.Proofs.YtakilgkpfjhfdaaGreat
open Go Go.Sl Go.RowKit Go.Sort
set_option maxHeartbeats 1000000 in
theorem zoT (s a b : Int) (W : World) : Calls Tryz.prog 70 #[.int .i64 s, .int .i64 a, .int .i64 b] W fun e w' => e = .returned (.bool (zct s a b)) ∧ w' = W := by
 go_enter Tryz.func70, Tryz.ntmps70
 go_wp2
 all_goals
  go_ret
  refine ⟨?_, rfl⟩
  simp [zct, *]
set_option maxHeartbeats 1000000 in
theorem zpx (x : Int) (W : World) : Calls Tryz.prog 128 #[.int .i64 x] W fun e w' => e = .returned (.bool false) ∧ w' = W := by
 go_enter Tryz.func128, Tryz.ntmps128
 go_wp2
 all_goals
  go_ret
  exact ⟨by simp, rfl⟩
set_option maxHeartbeats 1000000 in
theorem cmpK (x y : Int) (W : World) : Calls Tryz.prog 71 #[.int .i64 x, .int .i64 y] W fun e w' => e = .returned (.int .i64 (cmpI x y)) ∧ w' = W := by
 have h1 := fun z W => zpx z W
 go_enter Tryz.func71, Tryz.ntmps71
 go_wp2_with (go_at_call 128; refine (h1 _ _).mono ?_; rintro e w' ⟨rfl, rfl⟩)
 all_goals
  go_ret
  refine ⟨?_, rfl⟩
  simp [cmpI, *]
  try (split <;> (try split) <;> omega)
set_option maxHeartbeats 2000000 in
theorem zpy (a b : zaA) (W : World) : Calls Tryz.prog 43 #[.agg a.enc.toArray, .agg b.enc.toArray] W fun e w' => e = .returned (.int .i64 (cfO a b)) ∧ ∃ q os', w' = grow (W.drewN q) os' := by
 obtain ⟨a0, a1, a2, a3, a4, a5⟩ := a
 obtain ⟨b0, b1, b2, b3, b4, b5⟩ := b
 have h1 := fun s x y W => zoT s x y W
 have h2 := fun x y W => cmpK x y W
 unfold cfO
 dsimp only [zaA.enc]
 go_enter Tryz.func43, Tryz.ntmps43
 go_wp2_with (first | go_at_call 70; refine (h1 _ _ _ _).mono ?_; rintro e w' ⟨rfl, rfl⟩ | go_at_call 71; refine (h2 _ _ _).mono ?_; rintro e w' ⟨rfl, rfl⟩)
 all_goals
  go_ret
  refine ⟨?_, 0, _, by rw [alloc_eq_grow, alloc_eq_grow, grow_grow]; rfl⟩
  simp [*]
end Go.Proofs.YtakilgkpfjhfdaaGreat
namespace Go.Proofs.YtakilgkpfjhfdaaGreat
open Go Go.Sl Go.RowKit
attribute [local irreducible] AW ES EP Ld RetQ
set_option maxRecDepth 100000
theorem zpz {P : Program} {W : World} {N : Nat} {env : Env} {h : List zax} {Q : Exit → Env → List zax → Prop} {c : Code} {A : Option Addr} {n cc k : Nat} {e : TypeId} {cs : List Value} (hm : zax.own A n cc e k cs ∈ h)
 (hc : OwnF A n cc k cs → AW P W N c env h Q) : AW P W N c env h Q := zbV fun w hw => ⟨h, hw, hc (hw.ownF hm)⟩
theorem zj4 {α : Type} {p : α → Prop} : ∀ (l : List α), (∀ x ∈ l, p x) → ∃ ls : List {x // p x}, ls.map Subtype.val = l
 | [], _ => ⟨[], rfl⟩
 | x :: l, h => by
   obtain ⟨ls, hl⟩ := zj4 l (fun y hy => h y (mcm _ hy))
   exact ⟨⟨x, h x mcs⟩ :: ls, by simp [hl]⟩
theorem zpA {s : Int} {a b : zaA} (ha : a.side = s) : (cfO a b < 0) ↔ (if s = 1 then a.price > b.price ∨ (a.price = b.price ∧ a.seq < b.seq) else if s = 2 then a.price < b.price ∨ (a.price = b.price ∧ a.seq < b.seq) else a.seq < b.seq) := by
 unfold cfO zct cmpI
 subst ha
 by_cases h1 : a.side = 1
 ·simp only [h1, if_true]
  simp
  split <;> (try split) <;> (try split) <;> (try split) <;> omega
 ·by_cases h2 : a.side = 2
  ·simp only [h2]
   simp
   split <;> (try split) <;> (try split) <;> (try split) <;> omega
  ·simp [h1, h2]
   split <;> (try split) <;> omega
abbrev OrdS (s : Int) := {o : zaA // o.side = s}
instance instOrdS (s : Int) : Inhabited (OrdS s) := ⟨⟨⟨0, 0, 0, s, 0, 0⟩, rfl⟩⟩
def encS {s : Int} (x : OrdS s) : List Value := x.1.enc
def cfS {s : Int} (x y : OrdS s) : Int := cfO x.1 y.1
theorem ltS {s : Int} (x y : OrdS s) : ltOf cfS x y = true ↔ (if s = 1 then x.1.price > y.1.price ∨ (x.1.price = y.1.price ∧ x.1.seq < y.1.seq) else if s = 2 then x.1.price < y.1.price ∨ (x.1.price = y.1.price ∧ x.1.seq < y.1.seq) else x.1.seq < y.1.seq) := by
 unfold ltOf
 rw [decide_eq_true_iff]
 exact zpA x.2
theorem swoS (s : Int) : Sort.SWO (ltOf (cfS (s := s))) where
 irrefl x := by
  cases h : ltOf cfS x x
  ·rfl
  ·rw [ltS] at h; exfalso; split at h <;> (try split at h) <;> omega
 trans x y z h1 h2 := by
  rw [ltS] at *
  split <;> (try split) <;> simp_all <;> omega
 ntrans x y z h1 h2 := by
  cases h : ltOf cfS x z
  ·rfl
  ·exfalso
   have k1 : ¬ ltOf cfS x y = true := by rw [h1]; simp
   have k2 : ¬ ltOf cfS y z = true := by rw [h2]; simp
   rw [ltS] at h k1 k2
   split at h <;> (try split at h) <;> simp_all <;> omega
theorem zlR (W : World) (s : Int) (F : List zax) (A : Option Addr) (c : Nat) (l : List zaA) (hl : ∀ o ∈ l, o.side = s) (hb : l.length ≤ 1000000) :
 zaB Tryz.prog W 42 [.slice A l.length c, .func (.func 43) #[] #[]] (.own A l.length c 52 6 (l.flatMap zaA.enc) :: F)
  (fun v h' => v = .tuple #[] ∧ ∃ l' : List zaA, l'.Perm l ∧ l'.Pairwise (fun a b => ¬ cfO b a < 0) ∧ h' = .own A l'.length c 52 6 (l'.flatMap zaA.enc) :: F) := by
 obtain ⟨ls, rfl⟩ := zj4 (p := fun o => o.side = s) l hl
 have e : ∀ m : List (OrdS s), (m.map Subtype.val).flatMap zaA.enc = m.flatMap encS := fun m => by rw [List.flatMap_map]; rfl
 have hf : zlr Tryz.prog 42 := ⟨_, Tryz.func42, rfl, rfl⟩
 have eg : ∀ args w, (callFunc 43 args).run Tryz.prog w = .ok (.enter 43 args) w := enters_of Tryz.func43 (by kernel_rfl) rfl
 have := zpw (P := Tryz.prog) (W := W) (F := F) (enc := encS (s := s)) (k := 6) zqR hf Tryz.isAgg52 Tryz.sizeOf52 (fun x => x.1.enc_len) (fun x => x.1.enc_one) cfS (swoS s) 43 eg (fun x y W => zpy x.1 y.1 W) A c 52 ls (by simpa using hb)
 rw [List.length_map, e]
 refine zaB.mono this ?_
 rintro v h' ⟨rfl, l', hp, hs, rfl⟩
 refine ⟨rfl, l'.map Subtype.val, hp.map _, ?_, by rw [List.length_map, e]⟩
 rw [List.pairwise_map]
 exact hs.imp (fun {a b} hab => odf hab)
set_option maxHeartbeats 1000000 in
theorem zd8 (W : World) (h : List zax) (p : Nat) (A : Option Addr) (c : Nat) (l : List zaA) (s : Int) (m1 : zax.blk p 106 [.slice A l.length c] ∈ h) (m2 : zax.own A l.length c 52 6 (l.flatMap zaA.enc) ∈ h) (hb : l.length ≤ 1000000) (hu : ze6 l) (hv : ∀ o ∈ l, isB o.side = true) :
 zaB Tryz.prog W 20 [.pointer (some ⟨p, 0, none⟩), .int .i64 s] h
  (fun v h' => ∃ A' c', v = .slice A' (zbf s l).length c' ∧ h' = .own A' (zbf s l).length c' 52 6 ((zbf s l).flatMap zaA.enc) :: h ∧ OwnF A' (zbf s l).length c' 6 ((zbf s l).flatMap zaA.enc)) := by
 refine zaB.dropF ?_
 refine zan Tryz.func20 rfl rfl Tryz.results20 Tryz.ntmps20 rfl rfl ?_
 refine zbm m2 (fun hl hnc hcc hsome hnone hone => ?_)
 have hr : zaJ W h A l.length 6 (l.flatMap zaA.enc) := zaJ.own m2 hl hone
 repeat' (first | apply zae | apply zaa | apply zah | apply zaf | apply zad | apply zab hT; iterate 4 exact rfl | (apply zal; (iterate 5 exact rfl); first | exact zaC hT rfl rfl m1 rfl rfl ) | apply zag; iterate 2 exact rfl)
 refine zbV (fun w hw => ⟨_, hw.own_nil 52 6, ?_⟩)
 have hml : ∀ k, ((l.take k).filter (zb4 s)).length ≤ k := fun k => by
  have := List.length_filter_le (zb4 s) (l.take k); simp at this; omega
 refine zbU (α := Nat × Option Addr × Nat) (E := fun x => [(1, .int .i64 s), (5, .slice x.2.1 ((l.take x.1).filter (zb4 s)).length x.2.2), (13, .slice A l.length c), (14, .int .i64 l.length), (15, .int .i64 x.1)])
  (H := fun x => .own x.2.1 ((l.take x.1).filter (zb4 s)).length x.2.2 52 6 (((l.take x.1).filter (zb4 s)).flatMap zaA.enc) :: h) (μ := fun x => l.length - x.1)
  (S := fun x => x.1 ≤ l.length) (0, none, 0) (J := []) (Nat.zero_le _) ⟨rfl, rfl, rfl, rfl, rfl, trivial⟩ (List.Perm.refl _) ?_
 rintro ⟨k, A5, c5⟩ hk
 dsimp only at hk ⊢
 have hmk := hml k
 by_cases hlt : k < l.length
 ·obtain ⟨x, hx⟩ : ∃ x, l[k]? = some x := ⟨l[k]'(by omega), List.getElem?_eq_getElem (by omega)⟩
  have hx2 : l[(k : Int).toNat]? = some x := by simpa using hx
  obtain ⟨g, hA⟩ := hsome (by omega)
  have hA2 : A.isSome = true := by rw [hA]; rfl
  have hd1 : decide ((k : Int) < (l.length : Int)) = true := by simp; omega
  have hrc := fun X => hr.cons (c := X)
  cases hlv : zb4 s x
  ·have hne : ¬ x.side = s := by simpa [zb4] using hlv
   have hs1 : (l.take (k + 1)).filter (zb4 s) = (l.take k).filter (zb4 s) := by
    rw [List.take_add_one, hx, List.filter_append]; simp [hlv]
   repeat' (first | apply zae | apply zaa | apply zah | apply zaf | apply zad | apply zab hT; iterate 4 exact rfl | apply zaN hT; (iterate 4 exact rfl); (iterate 2 omega) | apply zaS hT; (iterate 8 exact rfl); (iterate 2 omega); exact hA2 | apply zal; (iterate 5 exact rfl); exact zaY hT rfl rfl (hrc _) zaA.enc_len rfl hx2 rfl | apply zaI hT; (iterate 5 exact rfl); intro g7 | apply zaF hT; (iterate 6 exact rfl); exact sel0; (iterate 3 exact rfl); exact nle rfl | (apply zal; (iterate 5 exact rfl); first | exact zaC hT rfl rfl mem0 rfl rfl ) | (apply zam; exact rfl; all_goals (intro hb; (try simp only [hb]); (first | replace hb := odt hb | replace hb := odf hb ); (try omega))))
   all_goals first
    | (exfalso; omega)
    | (refine zaR (k + 1, A5, c5) (by dsimp only; omega) (by dsimp only; omega) ⟨rfl, by dsimp only; rw [hs1]; rfl, rfl, rfl, rfl, trivial⟩ ?_
       dsimp only
       rw [hs1]
       exact zat zar)
  ·have hne : x.side = s := by simpa [zb4] using hlv
   have hs1 : (l.take (k + 1)).filter (zb4 s) = (l.take k).filter (zb4 s) ++ [x] := by
    rw [List.take_add_one, hx, List.filter_append]; simp [hlv]
   repeat' (first | apply zae | apply zaa | apply zah | apply zaf | apply zad | apply zab hT; iterate 4 exact rfl | apply zaN hT; (iterate 4 exact rfl); (iterate 2 omega) | apply zaS hT; (iterate 8 exact rfl); (iterate 2 omega); exact hA2 | apply zal; (iterate 5 exact rfl); exact zaY hT rfl rfl (hrc _) zaA.enc_len rfl hx2 rfl | apply zaI hT; (iterate 5 exact rfl); intro g7 | apply zaF hT; (iterate 6 exact rfl); exact sel0; (iterate 3 exact rfl); exact nle rfl | apply zao hT; (iterate 12 exact rfl); intro g | (apply zbg hT; (iterate 10 exact rfl); (first | exact selS sel1 ); exact zaJ.own mem0 rfl (zaA.enc_one x); omega; (show (_ : Nat) * 48 ≤ _; omega); intro A' c') | (apply zal; (iterate 5 exact rfl); first | exact zaC hT rfl rfl mem0 rfl rfl | exact zaQ hT rfl rfl mem0 rfl) | (apply zam; exact rfl; all_goals (intro hb; (try simp only [hb]); (first | replace hb := odt hb | replace hb := odf hb ); (try omega))))
   all_goals first
    | (exfalso; omega)
    | (refine zaR (k + 1, A', c') (by dsimp only; omega) (by dsimp only; omega) ⟨rfl, by dsimp only; rw [hs1, List.length_append]; rfl, rfl, rfl, rfl, trivial⟩ ?_
       dsimp only
       rw [hs1, List.length_append, List.flatMap_append]
       apply zay; (first | exact sel0)
       (repeat (first | exact zar | apply zat)))
 ·obtain rfl : k = l.length := by omega
  have hd1 : decide ((l.length : Int) < (l.length : Int)) = false := by simp
  rw [List.take_length] at hmk ⊢
  have hside : ∀ o ∈ l.filter (zb4 s), o.side = s := fun o ho => by simpa [zb4] using (List.mem_filter.1 ho).2
  have hsort := fun A5 c5 => zlR W s h A5 c5 (l.filter (zb4 s)) hside (by omega)
  have hfin : ∀ m : List zaA, m.Perm (l.filter (zb4 s)) → m.Pairwise (fun a b => ¬ cfO b a < 0) → m = zbf s l := fun m hp hs => zjp hu hv hp hs
  have hlen : (zbf s l).length = (l.filter (zb4 s)).length := (zc4 s l).length_eq
  repeat' (first | apply zae | apply zaa | apply zaj | apply zas | apply zad | apply zab hT; iterate 4 exact rfl | apply zaz (hs := (hsort _ _)); (iterate 7 exact rfl); (rintro _ _ ⟨rfl, m, hp, hs, rfl⟩; obtain rfl := hfin m hp hs) | (apply zam; exact rfl; all_goals (intro hb; (try simp only [hb]); (first | replace hb := odt hb | replace hb := odf hb ); (try omega))))
  apply ret1; exact rfl
  refine ⟨_, zar, fun w hw => ⟨A5, c5, by rw [hlen], rfl, hw.ownF mem0⟩⟩
/-! ### levels -/
theorem zkF {o : List zaA} (ho : ∀ x ∈ o, 1 ≤ x.left ∧ x.left ≤ 1000000) (hb : o.length ≤ 1000000) : ∀ v ∈ zbp o, 1 ≤ v.qty ∧ v.qty ≤ 1000000 * o.length := by
 have key : ∀ (o : List zaA) (v : List Lvl) (n : Nat), (∀ x ∈ o, 1 ≤ x.left ∧ x.left ≤ 1000000) → (∀ y ∈ v, 1 ≤ y.qty ∧ y.qty ≤ 1000000 * (n : Int)) → ∀ y ∈ o.foldl zde v, 1 ≤ y.qty ∧ y.qty ≤ 1000000 * ((n + o.length : Nat) : Int) := by
  intro o
  induction o with
  | nil => intro v n _ hv y hy; simpa using hv y hy
  | cons x o ih =>
    intro v n ho hv y hy
    rw [List.foldl_cons] at hy
    have hx := ho x mcs
    have := ih (zde v x) (n + 1) (fun z hz => ho z (mcm _ hz)) (fun z hz => ?_) y hy
    ·rw [List.length_cons]
     have e : ((n + 1 + o.length : Nat) : Int) = ((n + (o.length + 1) : Nat) : Int) := by omega
     rw [e] at this; exact this
    ·unfold zde at hz
     have hmono : ∀ y ∈ v, 1 ≤ y.qty ∧ y.qty ≤ 1000000 * ((n + 1 : Nat) : Int) := fun y hy => by have := hv y hy; omega
     split at hz
     ·rename_i w hw
      have hwv : w ∈ v := List.mem_of_getLast? hw
      split at hz
      ·rcases List.mem_append.1 hz with h | h
       ·exact hmono z ((List.dropLast_sublist v).subset h)
       ·rw [List.mem_singleton.1 h]; have := hv w hwv; dsimp only; omega
      ·rcases List.mem_append.1 hz with h | h
       ·exact hmono z h
       ·rw [List.mem_singleton.1 h]; dsimp only; omega
     ·rw [List.mem_singleton.1 hz]; dsimp only; omega
 intro v hv
 have := key o [] 0 ho (fun y hy => by cases hy) v hv
 simpa using this
theorem zkG {v : List Lvl} {x : Lvl} {o : zaA} (h : v[v.length - 1]? = some x) (hp : x.price = o.price) : zde v o = v.set (v.length - 1) ⟨x.price, x.qty + o.left⟩ := by
 have hl : v.getLast? = some x := by rw [List.getLast?_eq_getElem?]; exact h
 unfold zde
 rw [hl]
 dsimp only
 rw [if_pos hp]
 have hne : v ≠ [] := fun e => by rw [e] at h; simp at h
 obtain ⟨u, y, rfl⟩ := List.eq_nil_or_concat v |>.resolve_left hne
 simp
theorem ziD {v : List Lvl} {o : zaA} (h : ∀ x, v[v.length - 1]? = some x → x.price ≠ o.price) : zde v o = v ++ [⟨o.price, o.left⟩] := by
 unfold zde
 split
 ·rename_i x hx
  rw [List.getLast?_eq_getElem?] at hx
  rw [if_neg (h x hx)]
 ·rename_i hx
  rw [List.getLast?_eq_none_iff] at hx
  rw [hx]; rfl
set_option maxHeartbeats 1000000 in
theorem zgl (W : World) (h : List zax) (p : Nat) (A : Option Addr) (c : Nat) (l : List zaA) (s : Int) (m1 : zax.blk p 106 [.slice A l.length c] ∈ h) (m2 : zax.own A l.length c 52 6 (l.flatMap zaA.enc) ∈ h) (hb : l.length ≤ 1000000) (hu : ze6 l) (hv : ∀ o ∈ l, isB o.side = true) (hq : ∀ o ∈ l, 1 ≤ o.left ∧ o.left ≤ 1000000) :
 zaB Tryz.prog W 202 [.pointer (some ⟨p, 0, none⟩), .int .i64 s] h
  (fun v h' => ∃ A' c', v = .slice A' (zbp (zbf s l)).length c' ∧ h' = .own A' (zbp (zbf s l)).length c' 276 2 ((zbp (zbf s l)).flatMap Lvl.enc) :: h ∧ OwnF A' (zbp (zbf s l)).length c' 2 ((zbp (zbf s l)).flatMap Lvl.enc)) := by
 refine zaB.dropF ?_
 refine zan Tryz.func202 rfl rfl Tryz.results202 Tryz.ntmps202 rfl rfl ?_
 have hside := zd8 W h p A c l s m1 m2 hb hu hv
 have hsl := zcU s l
 have hsq : ∀ o ∈ zbf s l, 1 ≤ o.left ∧ o.left ≤ 1000000 := fun o ho => hq o (zc5 ho).1
 generalize zbf s l = sl at hside hsl hsq
 repeat' (first | apply zae | apply zaa | apply zaf | apply zad | apply zab hT; iterate 4 exact rfl | apply zaz (hs := hside); (iterate 7 exact rfl); rintro _ _ ⟨AS, cS, rfl, rfl, hfS⟩)
 refine zbV (fun w hw => ⟨_, hw.own_nil 276 2, ?_⟩)
 have hll : ∀ k, k ≤ sl.length → (zbp (sl.take k)).length ≤ k := by
  intro k
  induction k with
  | zero => intro _; simp [zbp]
  | succ k ih =>
    intro hk
    obtain ⟨x, hx⟩ : ∃ x, sl[k]? = some x := ⟨sl[k]'(by omega), List.getElem?_eq_getElem (by omega)⟩
    rw [List.take_add_one, hx]
    have := ziz (zbp (sl.take k)) x
    have := ih (by omega)
    rw [show (some x).toList = [x] from rfl, zeK]; omega
 refine zbU (α := Nat × Option Addr × Nat) (E := fun x => [(5, .slice x.2.1 (zbp (sl.take x.1)).length x.2.2), (11, .slice AS sl.length cS), (12, .int .i64 sl.length), (13, .int .i64 x.1)])
  (H := fun x => .own x.2.1 (zbp (sl.take x.1)).length x.2.2 276 2 ((zbp (sl.take x.1)).flatMap Lvl.enc) :: .own AS sl.length cS 52 6 (sl.flatMap zaA.enc) :: h) (μ := fun x => sl.length - x.1)
  (S := fun x => x.1 ≤ sl.length) (0, none, 0) (J := []) (Nat.zero_le _) ⟨rfl, rfl, rfl, rfl, trivial⟩ (List.Perm.refl _) ?_
 rintro ⟨k, A5, c5⟩ hk
 dsimp only at hk ⊢
 refine zpz mem0 (fun hf5 => ?_)
 have hmk := hll k hk
 by_cases hlt : k < sl.length
 ·obtain ⟨x, hx⟩ : ∃ x, sl[k]? = some x := ⟨sl[k]'(by omega), List.getElem?_eq_getElem (by omega)⟩
  have hx2 : sl[(k : Int).toNat]? = some x := by simpa using hx
  have hA := hfS.some_ (by omega)
  have hd1 : decide ((k : Int) < (sl.length : Int)) = true := by simp; omega
  have hstep : zbp (sl.take (k + 1)) = zde (zbp (sl.take k)) x := by
   rw [List.take_add_one, hx, show (some x).toList = [x] from rfl, zeK]
  have hqx := hsq x (List.mem_of_getElem? hx)
  have hqv := zkF (o := sl.take k) (fun o ho => hsq o (List.mem_of_mem_take ho)) (by simp; omega)
  have htl : ((sl.take k).length : Int) ≤ 1000000 := by simp; omega
  generalize hvl : zbp (sl.take k) = v at hf5 hmk hstep hqv ⊢
  by_cases h0 : v.length = 0
  ·have hv0 : v = [] := List.eq_nil_of_length_eq_zero h0
   have hadd : zde v x = v ++ [⟨x.price, x.left⟩] := ziD (fun y hy => by rw [hv0] at hy; simp at hy)
   have hd2 : decide (((v.length : Nat) : Int) > 0) = false := by simp; omega
   repeat' (first | apply zae | apply zaa | apply zah | apply zaf | apply zad | apply zab hT; iterate 4 exact rfl | apply zaq; iterate 3 exact rfl | apply zaN hT; (iterate 4 exact rfl); (iterate 2 omega) | apply zaM [] [] hmix; decide +kernel | apply zaS hT; (iterate 8 exact rfl); (iterate 2 omega); exact hA | apply zal; (iterate 5 exact rfl); exact zaY hT rfl rfl (hfS.reads mem1) zaA.enc_len rfl hx2 rfl | apply zaI hT; (iterate 5 exact rfl); intro g7 | apply zaF hT; (iterate 6 exact rfl); exact sel0; (iterate 3 exact rfl); exact nle rfl | apply zb7 hT; iterate 4 exact rfl | apply zao hT; (iterate 12 exact rfl); intro g | (apply zbg hT; (iterate 10 exact rfl); (first | exact selS sel1 ); exact zaJ.own mem0 rfl (Lvl.enc_one ⟨x.price, x.left⟩); omega; (show (_ : Nat) * 16 ≤ _; omega); intro A' c') | (apply zal; (iterate 5 exact rfl); first | exact zaC hT rfl rfl mem0 rfl rfl ) | apply zag; iterate 2 exact rfl | (apply zav; exact rfl; all_goals (intro hb; (try simp only [hb]); (first | replace hb := odt hb | replace hb := odf hb ); (try omega))) | (apply zam; exact rfl; all_goals (intro hb; (try simp only [hb]); (first | replace hb := odt hb | replace hb := odf hb ); (try omega))))
   all_goals first
    | (exfalso; omega)
    | (refine zaR (k + 1, A', c') (by dsimp only; omega) (by dsimp only; omega) ⟨by dsimp only; rw [hstep, hadd, List.length_append]; rfl, rfl, rfl, rfl, trivial⟩ ?_
       dsimp only
       rw [hstep, hadd, List.length_append, List.flatMap_append]
       apply zay; (first | exact sel0)
       apply zay; (first | exact selS sel1)
       (repeat (first | exact zar | apply zat)))
    | (exfalso; simp_all; done)
  ·obtain ⟨y, hy⟩ : ∃ y, v[v.length - 1]? = some y := ⟨v[v.length - 1]'(by omega), List.getElem?_eq_getElem (by omega)⟩
   have hy2 : v[((v.length : Int) - 1).toNat]? = some y := by rw [show ((v.length : Int) - 1).toNat = v.length - 1 by omega]; exact hy
   have hA5 := hf5.some_ (by omega)
   have hd2 : decide (((v.length : Nat) : Int) > 0) = true := by simp; omega
   have hqy := hqv y (List.mem_of_getElem? hy)
   by_cases hpp : y.price = x.price
   ·have hadd := zkG (o := x) hy hpp
    have hlay : lay (v.flatMap Lvl.enc) (((v.length : Int) - 1).toNat * 2 + 1) [.int .i64 (y.qty + x.left)] = (zde v x).flatMap Lvl.enc := by
     rw [hadd, show ((v.length : Int) - 1).toNat = v.length - 1 by omega, zbS Lvl.enc_len (x' := ⟨y.price, y.qty + x.left⟩) hy (Nat.le_of_ble_eq_true rfl) rfl]
    have hlen : (zde v x).length = v.length := by rw [hadd]; simp
    repeat' (first | apply zae | apply zaa | apply zah | apply zas | apply zaf | apply zad | apply zab hT; iterate 4 exact rfl | apply zaN hT; (iterate 4 exact rfl); (iterate 2 omega) | apply zaM [] [] hmix; decide +kernel | (apply zaS hT; (iterate 8 exact rfl); (iterate 2 omega); first | exact hA | exact hA5) | (apply zal; (iterate 5 exact rfl); first | exact zaY hT rfl rfl (hfS.reads mem1) zaA.enc_len rfl hx2 rfl | exact zbb hT rfl rfl (hf5.reads mem1) Lvl.enc_len (zaW _ _ _) hy2 (by decide) rfl) | apply zaI hT; (iterate 5 exact rfl); intro g7 | apply zaF hT; (iterate 6 exact rfl); exact sel0; (iterate 3 exact rfl); exact nle rfl | (apply zbs hT; (iterate 6 exact rfl); (first | exact sel1 ); exact zaW _ _ _; exact rfl; exact rfl; (show (((v.length : Int) - 1).toNat * 2 + 1) + 1 ≤ v.length * 2; omega); omega) | (apply zal; (iterate 5 exact rfl); first | exact zaC hT rfl rfl mem0 rfl rfl ) | (apply zav; exact rfl; all_goals (intro hb; (try simp only [hb]); (first | replace hb := odt hb | replace hb := odf hb ); (try omega))) | (apply zam; exact rfl; all_goals (intro hb; (try simp only [hb]); (first | replace hb := odt hb | replace hb := odf hb ); (try omega))))
    all_goals first
     | (exfalso; omega)
     | (refine zaR (k + 1, A5, c5) (by dsimp only; omega) (by dsimp only; omega) ⟨by dsimp only; rw [hstep, hlen]; rfl, rfl, rfl, rfl, trivial⟩ ?_
        dsimp only
        rw [hstep, hlen, ← hlay]
        apply zay; (first | exact sel0)
        apply zay; (first | exact sel1)
        (repeat (first | exact zar | apply zat)))
     | (exfalso; simp_all; done)
   ·have hadd : zde v x = v ++ [⟨x.price, x.left⟩] := ziD (fun z hz => by rw [hy] at hz; cases hz; exact hpp)
    repeat' (first | apply zae | apply zaa | apply zah | apply zaf | apply zad | apply zab hT; iterate 4 exact rfl | apply zaN hT; (iterate 4 exact rfl); (iterate 2 omega) | apply zaM [] [] hmix; decide +kernel | (apply zaS hT; (iterate 8 exact rfl); (iterate 2 omega); first | exact hA | exact hA5) | (apply zal; (iterate 5 exact rfl); first | exact zaY hT rfl rfl (hfS.reads mem1) zaA.enc_len rfl hx2 rfl | exact zbb hT rfl rfl (hf5.reads mem1) Lvl.enc_len (zaW _ _ _) hy2 (by decide) rfl) | apply zaI hT; (iterate 5 exact rfl); intro g7 | apply zaF hT; (iterate 6 exact rfl); exact sel0; (iterate 3 exact rfl); exact nle rfl | apply zb7 hT; iterate 4 exact rfl | apply zao hT; (iterate 12 exact rfl); intro g | (apply zbg hT; (iterate 10 exact rfl); (first | exact selS sel1 ); exact zaJ.own mem0 rfl (Lvl.enc_one ⟨x.price, x.left⟩); omega; (show (_ : Nat) * 16 ≤ _; omega); intro A' c') | (apply zal; (iterate 5 exact rfl); first | exact zaC hT rfl rfl mem0 rfl rfl ) | (apply zav; exact rfl; all_goals (intro hb; (try simp only [hb]); (first | replace hb := odt hb | replace hb := odf hb ); (try omega))) | (apply zam; exact rfl; all_goals (intro hb; (try simp only [hb]); (first | replace hb := odt hb | replace hb := odf hb ); (try omega))))
    all_goals first
     | (exfalso; omega)
     | (refine zaR (k + 1, A', c') (by dsimp only; omega) (by dsimp only; omega) ⟨by dsimp only; rw [hstep, hadd, List.length_append]; rfl, rfl, rfl, rfl, trivial⟩ ?_
        dsimp only
        rw [hstep, hadd, List.length_append, List.flatMap_append]
        apply zay; (first | exact sel0)
        apply zay; (first | exact selS sel1)
        (repeat (first | exact zar | apply zat)))
     | (exfalso; simp_all; done)
 ·obtain rfl : k = sl.length := by omega
  have hd1 : decide ((sl.length : Int) < (sl.length : Int)) = false := by simp
  rw [List.take_length] at hf5 ⊢
  repeat' (first | apply zae | apply zaa | apply zaj | apply zas | apply zad | apply zab hT; iterate 4 exact rfl | (apply zam; exact rfl; all_goals (intro hb; (try simp only [hb]); (first | replace hb := odt hb | replace hb := odf hb ); (try omega))))
  apply ret1; exact rfl
  exact ⟨.own A5 (zbp sl).length c5 276 2 ((zbp sl).flatMap Lvl.enc) :: h, by apply zay; (first | exact sel0); (repeat (first | exact zar | apply zat)), fun w hw => ⟨A5, c5, rfl, rfl, hf5⟩⟩
end Go.Proofs.YtakilgkpfjhfdaaGreat
namespace Go.Proofs.YtakilgkpfjhfdaaGreat
open Go Go.Sl
attribute [local irreducible] AW ES EP Ld RetQ
set_option maxRecDepth 100000
structure zbh (l : List zaA) : Prop where
 seq : ze6 l
 id : l.Pairwise fun a b => a.id ≠ b.id
 ok : ∀ o ∈ l, okO o = true
 len : l.length ≤ 64
theorem zbh.nil : zbh [] := ⟨List.Pairwise.nil, List.Pairwise.nil, (fun o h => by cases h), Nat.zero_le _⟩
theorem znt {o : zaA} (h : okO o = true) : isB o.side = true := by simp only [okO, Bool.and_eq_true] at h; exact h.2
theorem zj5 {o : zaA} (h : okO o = true) : 1 ≤ o.left ∧ o.left ≤ 1000000 := by
 simp only [okO, Bool.and_eq_true, decide_eq_true_eq] at h
 exact ⟨h.1.1.1.2, h.1.1.2⟩
theorem zbh.side {l : List zaA} (h : zbh l) : ∀ o ∈ l, isB o.side = true := fun o ho => znt (h.ok o ho)
theorem zbh.left {l : List zaA} (h : zbh l) : ∀ o ∈ l, 1 ≤ o.left ∧ o.left ≤ 1000000 := fun o ho => zj5 (h.ok o ho)
theorem zbh.le {l : List zaA} (h : zbh l) : l.length ≤ 1000000 := by have := h.len; omega
theorem zbh.add {l : List zaA} (h : zbh l) (o : zaA) : zbh (addO o l) := by
 unfold addO
 split
 ·rename_i h0
  have hE := h0
  unfold zfz at hE
  have h1 : ¬ (okO o = false ∨ za4 (zbt o) l ≥ 0) := fun hh => by rw [if_pos hh] at hE; omega
  rw [if_neg h1] at hE
  have h2 : ¬ l.length ≥ 64 := fun hh => by rw [if_pos hh] at hE; omega
  have hno : ∀ x ∈ l, zbt o x = false := zcu.1 (by omega)
  have hok : okO o = true := by
   cases hh : okO o
   ·exact absurd (.inl hh) h1
   ·rfl
  have hne : ∀ x ∈ l, x.id ≠ o.id ∧ x.seq ≠ o.seq := fun x hx => by
   have := hno x hx
   simp only [zbt, Bool.or_eq_false_iff, beq_eq_false_iff_ne] at this
   exact this
  refine ⟨?_, ?_, ?_, by simp; omega⟩
  ·unfold ze6
   rw [List.pairwise_append]
   exact ⟨h.seq, by simp, fun a ha b hb => by rw [List.mem_singleton.1 hb]; exact (hne a ha).2⟩
  ·rw [List.pairwise_append]
   exact ⟨h.id, by simp, fun a ha b hb => by rw [List.mem_singleton.1 hb]; exact (hne a ha).1⟩
  ·intro x hx
   rcases List.mem_append.1 hx with hx | hx
   ·exact h.ok x hx
   ·rw [List.mem_singleton.1 hx]; exact hok
 ·exact h
def lf (id left : Int) (x : zaA) : zaA := if x.id = id then { x with left := left } else x
theorem zlS {id left : Int} {l : List zaA} (hu : l.Pairwise fun a b => a.id ≠ b.id) (hE : zdu id left l = 0) : zcd id left l = l.map (lf id left) := by
 rcases zeL (p := hasO id) l with ⟨hi, hf⟩ | ⟨i, x, hi, hx, hp, hf⟩
 ·simp [zdu, getO, hf] at hE
 ·have hg : getO id l = some x := hf
  have hL : zcd id left l = l.set i { x with left := left } := by simp [zcd, hg, hE, hi]
  rw [hL]
  have hxi : x.id = id := by simpa [hasO] using hp
  obtain ⟨hlt, hxe⟩ := List.getElem?_eq_some_iff.1 hx
  apply List.ext_getElem?
  intro j
  rw [List.getElem?_map]
  by_cases hij : i = j
  ·subst hij
   rw [hx, List.getElem?_set_self hlt]; simp [lf, hxi]
  ·rw [List.getElem?_set_ne hij]
   cases hy : l[j]? with
   | none => rfl
   | some y =>
     simp only [Option.map_some]
     obtain ⟨hjl, hye⟩ := List.getElem?_eq_some_iff.1 hy
     have hne : y.id ≠ x.id := by
      rcases Nat.lt_or_gt_of_ne hij with h | h
      ·have := List.pairwise_iff_getElem.1 hu i j hlt hjl h
       rw [hxe, hye] at this; exact fun e => this e.symm
      ·have := List.pairwise_iff_getElem.1 hu j i hjl hlt h
       rw [hxe, hye] at this; exact this
     rw [lf, if_neg (by rw [← hxi]; exact hne)]
theorem zj6 {id left : Int} {l : List zaA} (hE : ¬ zdu id left l = 0) : zcd id left l = l := by
 unfold zcd
 split
 ·rfl
 ·rw [if_neg hE]
theorem zbh.less {l : List zaA} (h : zbh l) {id left : Int} (hE : zdu id left l = 0) : zbh (zcd id left l) := by
 rw [zlS h.id hE]
 have hq : 1 ≤ left ∧ ∀ x ∈ l, x.id = id → left ≤ x.left := by
  rcases zeL (p := hasO id) l with ⟨hi, hf⟩ | ⟨i, x, hi, hx, hp, hf⟩
  ·simp [zdu, getO, hf] at hE
  ·have hg : getO id l = some x := hf
   have hb : ¬ (left < 1 ∨ left > x.left) := fun hh => by simp [zdu, hg, hh] at hE
   refine ⟨by omega, fun y hy hyi => ?_⟩
   have hxi : x.id = id := by simpa [hasO] using hp
   obtain ⟨j, hj⟩ := List.getElem?_of_mem hy
   obtain ⟨hlt, hxe⟩ := List.getElem?_eq_some_iff.1 hx
   obtain ⟨hjl, hye⟩ := List.getElem?_eq_some_iff.1 hj
   rcases Nat.lt_trichotomy i j with h' | h' | h'
   ·have := List.pairwise_iff_getElem.1 h.id i j hlt hjl h'
    rw [hxe, hye] at this; omega
   ·subst h'; rw [hxe] at hye; rw [← hye]; omega
   ·have := List.pairwise_iff_getElem.1 h.id j i hjl hlt h'
    rw [hxe, hye] at this; omega
 have k : ∀ x : zaA, (lf id left x).id = x.id ∧ (lf id left x).seq = x.seq := fun x => by unfold lf; split <;> exact ⟨rfl, rfl⟩
 refine ⟨?_, ?_, ?_, by simpa using h.len⟩
 ·unfold ze6; rw [List.pairwise_map]; exact h.seq.imp (fun {a b} hab => by rw [(k a).2, (k b).2]; exact hab)
 ·rw [List.pairwise_map]; exact h.id.imp (fun {a b} hab => by rw [(k a).1, (k b).1]; exact hab)
 ·intro o ho
  obtain ⟨x, hx, rfl⟩ := List.mem_map.1 ho
  have hok := h.ok x hx
  have hl := h.left x hx
  unfold lf
  split
  ·rename_i hxi
   have := hq.2 x hx hxi
   simp only [okO, Bool.and_eq_true, decide_eq_true_eq] at hok ⊢
   obtain ⟨⟨⟨⟨⟨⟨⟨a1, a2⟩, a3⟩, a4⟩, a5⟩, a6⟩, a7⟩, a8⟩ := hok
   exact ⟨⟨⟨⟨⟨⟨⟨a1, a2⟩, a3⟩, a4⟩, hq.1⟩, by omega⟩, a7⟩, a8⟩
  ·exact hok
section
variable {P : Program} {W : World} {T : Tab} {N : Nat} {env : Env} {h : List zax} {kf : KF} {ops : Array Oper} {K : Env → List zax → Prop} {rest : List Oper}
end
/-! ### sums, and levels by price -/
def sumL (o : List zaA) : Int := (o.map zaA.left).sum
theorem zfA (a b : List Int) : (a ++ b).sum = a.sum + b.sum := by
 induction a with
 | nil => simp
 | cons x a ih => simp [ih]; omega
theorem zgm (a b : List zaA) : sumL (a ++ b) = sumL a + sumL b := by simp [sumL, zfA]
end Go.Proofs.YtakilgkpfjhfdaaGreat
namespace Go.Proofs.YtakilgkpfjhfdaaGreat
open Go Go.Sl
attribute [local irreducible] AW ES EP Ld RetQ
set_option maxRecDepth 100000
theorem zdh {id : Nat} {Q : Exit → Env → List zax → Prop} {env : Env} {h : List zax} (hq : Q .normal env h) : zls id Q .normal env h := hq
structure znu where
 kind : Int
 order : zaA
def znu.enc (a : znu) : List Value := .int .i64 a.kind :: a.order.enc
theorem znu.enc_len (a : znu) : a.enc.length = 7 := rfl
theorem ze8 (id : Int) (l : List zaA) : (zbu id l).Sublist l := by
 unfold zbu
 split
 ·exact List.Sublist.refl _
 ·generalize (za4 (hasO id) l).toNat = i
  have h : l.take i ++ l.drop (i + 1) = l.eraseIdx i := (List.eraseIdx_eq_take_drop_succ l i).symm
  rw [h]; exact List.eraseIdx_sublist l i
theorem zbh.sub {l m : List zaA} (h : zbh l) (hs : m.Sublist l) : zbh m :=
 ⟨List.Pairwise.sublist hs h.seq, h.id.sublist hs, fun o ho => h.ok o (hs.subset ho), Nat.le_trans hs.length_le h.len⟩
theorem zbh.lessAny {l : List zaA} (h : zbh l) (id left : Int) : zbh (zcd id left l) := by
 by_cases hE : zdu id left l = 0
 ·exact h.less hE
 ·rw [zj6 hE]; exact h
theorem zhv (o : List zaA) : (zbp o).length ≤ o.length := by
 have : ∀ (o : List zaA) (v : List Lvl), (o.foldl zde v).length ≤ v.length + o.length := by
  intro o
  induction o with
  | nil => intro v; simp
  | cons a o ih => intro v; rw [List.foldl_cons]; have := ih (zde v a); have := ziz v a; simp; omega
 have := this o []
 unfold zbp
 simpa using this
end Go.Proofs.YtakilgkpfjhfdaaGreat
namespace Go.Proofs.YtakilgkpfjhfdaaGreat
open Go Go.Sl
def pqO (o : zaA) : Int × Int := (o.price, o.left)
def pqL (v : Lvl) : Int × Int := (v.price, v.qty)
def totL (l : List (Int × Int)) : Int := (l.map Prod.snd).sum
def zcl : List (Int × Int) → Int → Int
 | [], _ => 0
 | x :: r, q => x.1 * min q x.2 + zcl r (q - min q x.2)
def okP (l : List (Int × Int)) : Prop := ∀ x ∈ l, 1 ≤ x.1 ∧ x.1 ≤ 1000000 ∧ 1 ≤ x.2
theorem okP.tail {x : Int × Int} {l : List (Int × Int)} (h : okP (x :: l)) : okP l := fun y hy => h y (mcm _ hy)
theorem ze9 (x : Int × Int) (l : List (Int × Int)) : totL (x :: l) = x.2 + totL l := by simp [totL]
theorem zdQ (a b : List (Int × Int)) : totL (a ++ b) = totL a + totL b := by simp only [totL, List.map_append]; exact zfA _ _
theorem zc1 {l : List (Int × Int)} (h : okP l) : 0 ≤ totL l := by
 induction l with
 | nil => simp [totL]
 | cons x l ih => rw [ze9]; have := (h x mcs).2.2; have := ih h.tail; omega
theorem zdv {a b : List (Int × Int)} (ha : okP a) : ∀ {q : Int}, 0 ≤ q → zcl (a ++ b) q = zcl a q + zcl b (q - min q (totL a)) := by
 induction a with
 | nil => intro q hq; simp [zcl, totL, Int.min_eq_right hq]
 | cons x a ih =>
   intro q hq
   have h1 := (ha x mcs).2.2
   have h2 := zc1 ha.tail
   rw [List.cons_append, zcl, zcl, ih ha.tail (q := q - min q x.2) (by omega), ze9]
   have e : q - min q x.2 - min (q - min q x.2) (totL a) = q - min q (x.2 + totL a) := by omega
   rw [e]; omega
theorem zlT (p n q : Int) : zcl [(p, n)] q = p * min q n := by simp [zcl]
theorem zlU (p a b q : Int) (hq : 0 ≤ q) (ha : 0 ≤ a) (hb : 0 ≤ b) : zcl [(p, a), (p, b)] q = zcl [(p, a + b)] q := by
 simp only [zcl, Int.add_zero]
 rw [← Int.mul_add]
 congr 1
 omega
theorem zjr {l : List (Int × Int)} (h : okP l) : ∀ {q : Int}, 0 ≤ q → min q (totL l) ≤ zcl l q ∧ zcl l q ≤ 1000000 * min q (totL l) := by
 induction l with
 | nil => intro q hq; simp [zcl, totL, Int.min_eq_right hq]
 | cons x l ih =>
   intro q hq
   obtain ⟨h1, h2, h3⟩ := h x mcs
   have ht := zc1 h.tail
   have := ih h.tail (q := q - min q x.2) (by omega)
   rw [zcl, ze9]
   have m1 : min q x.2 ≤ x.1 * min q x.2 := by
    have := Int.mul_le_mul_of_nonneg_right h1 (show 0 ≤ min q x.2 by omega)
    omega
   have m2 : x.1 * min q x.2 ≤ 1000000 * min q x.2 := Int.mul_le_mul_of_nonneg_right h2 (show 0 ≤ min q x.2 by omega)
   have e : min q x.2 + min (q - min q x.2) (totL l) = min q (x.2 + totL l) := by omega
   omega
/-! ### a side -/
def okS (o : List zaA) : Prop := ∀ x ∈ o, 1 ≤ x.price ∧ x.price ≤ 1000000 ∧ 1 ≤ x.left ∧ x.left ≤ 1000000
theorem okS.pq {o : List zaA} (h : okS o) : okP (o.map pqO) := fun x hx => by
 obtain ⟨y, hy, rfl⟩ := List.mem_map.1 hx
 exact ⟨(h y hy).1, (h y hy).2.1, (h y hy).2.2.1⟩
theorem znv (v : List Lvl) (o : zaA) : (∃ u w, v = u ++ [w] ∧ w.price = o.price ∧ zde v o = u ++ [⟨w.price, w.qty + o.left⟩]) ∨ zde v o = v ++ [⟨o.price, o.left⟩] := by
 rcases List.eq_nil_or_concat v with rfl | ⟨u, w, rfl⟩
 ·exact .inr rfl
 ·by_cases hp : w.price = o.price
  ·refine .inl ⟨u, w, by simp, hp, ?_⟩
   simp [zde, hp]
  ·refine .inr ?_
   simp [zde, hp]
theorem zj7 {l : List (Int × Int)} {x : Int × Int} (h : okP l) (hx : 1 ≤ x.1 ∧ x.1 ≤ 1000000 ∧ 1 ≤ x.2) : okP (l ++ [x]) := fun y hy => by
 rcases List.mem_append.1 hy with hy | hy
 ·exact h y hy
 ·rw [List.mem_singleton.1 hy]; exact hx
theorem znw {a b : List (Int × Int)} (h : okP (a ++ b)) : okP a := fun y hy => h y (List.mem_append_left _ hy)
theorem zfa {l : List (Int × Int)} (h : okP l) (k : Nat) : okP (l.take k) := fun y hy => h y (List.mem_of_mem_take hy)
theorem zgn {o : List zaA} (h : okS o) : okP ((zbp o).map pqL) ∧ totL ((zbp o).map pqL) = totL (o.map pqO) ∧ ∀ q, 0 ≤ q → zcl ((zbp o).map pqL) q = zcl (o.map pqO) q := by
 have key : ∀ n, ∀ o : List zaA, o.length = n → okS o → okP ((zbp o).map pqL) ∧ totL ((zbp o).map pqL) = totL (o.map pqO) ∧ ∀ q, 0 ≤ q → zcl ((zbp o).map pqL) q = zcl (o.map pqO) q := by
  intro n
  induction n with
  | zero =>
    intro o ho _
    rw [List.eq_nil_of_length_eq_zero ho]
    exact ⟨fun x hx => (by cases hx), rfl, fun _ _ => rfl⟩
  | succ n ih =>
    intro o ho hok
    rcases List.eq_nil_or_concat o with rfl | ⟨o', x, rfl⟩
    ·simp at ho
    ·rw [List.concat_eq_append] at hok ho ⊢
     have hx := hok x (by simp)
     have hok' : okS o' := fun y hy => hok y (List.mem_append_left _ hy)
     obtain ⟨i1, i2, i3⟩ := ih o' (by simpa using ho) hok'
     rw [zeK, List.map_append, zdQ]
     have hox : List.map pqO [x] = [(x.price, x.left)] := rfl
     rcases znv (zbp o') x with ⟨u, w, hv, hp, he⟩ | he
     ·rw [he]
      rw [hv] at i1 i2 i3
      simp only [List.map_append, List.map_cons, List.map_nil] at i1 i2 i3 ⊢
      have hw := i1 (pqL w) (by simp)
      have hu := znw i1
      refine ⟨zj7 hu ⟨hw.1, hw.2.1, ?_⟩, ?_, ?_⟩
      ·have := hw.2.2; simp only [pqL] at *; omega
      ·rw [zdQ] at i2 ⊢
       rw [← i2]
       simp [totL, pqL, pqO]; omega
      ·intro q hq
       have htu := zc1 hu
       have := i3 q hq
       rw [zdv hok'.pq hq, ← this, zdv hu hq, zdv hu hq, ← i2, zdQ]
       have e2 : totL [pqL w] = w.qty := by simp [totL, pqL]
       have hwq := hw.2.2
       simp only [pqL] at hwq
       rw [e2]
       have e3 := zlU w.price w.qty x.left (q - min q (totL (u.map pqL))) (by omega) (by omega) (by omega)
       show _ + zcl [(w.price, w.qty + x.left)] _ = _ + zcl [(w.price, w.qty)] _ + zcl [(x.price, x.left)] _
       rw [← e3, ← hp]
       simp only [zcl, Int.add_zero]
       rw [Int.add_assoc]
       congr 3
       omega
     ·rw [he]
      simp only [List.map_append, List.map_cons, List.map_nil]
      refine ⟨zj7 i1 ⟨hx.1, hx.2.1, hx.2.2.1⟩, ?_, ?_⟩
      ·rw [zdQ, i2]; rfl
      ·intro q hq
       rw [zdv i1 hq, zdv hok'.pq hq, i3 q hq, i2]; rfl
 exact key _ o rfl h
theorem zoU {o : List zaA} (h : okS o) : totL (o.map pqO) ≤ 1000000 * o.length := by
 induction o with
 | nil => simp [totL]
 | cons x o ih =>
   have hx := h x mcs
   have := ih (fun y hy => h y (mcm _ hy))
   rw [List.map_cons, ze9, List.length_cons]
   simp only [pqO] at *
   omega
theorem ziE {o : zaA} (h : okO o = true) : 1 ≤ o.price ∧ o.price ≤ 1000000 := by
 simp only [okO, Bool.and_eq_true, decide_eq_true_eq] at h
 exact ⟨h.1.1.1.1.1.2, h.1.1.1.1.2⟩
theorem zbh.okS {l : List zaA} (h : zbh l) (s : Int) : okS (zbf s l) := fun x hx => by
 have := (zc5 hx).1
 exact ⟨(ziE (h.ok x this)).1, (ziE (h.ok x this)).2, (h.left x this).1, (h.left x this).2⟩
def allS (s : Int) (l : List zaA) : Int := totL ((zbf s l).map pqO)
def zgo (s : Int) (l : List zaA) (q : Int) : Option Nat := if q < 1 ∨ allS s l < q then none else some (zcl ((zbf s l).map pqO) q).toNat
theorem zlV {l : List zaA} (h : zbh l) (s : Int) : 0 ≤ allS s l ∧ allS s l ≤ 64000000 := by
 have h1 := zc1 (h.okS s).pq
 have h2 := zoU (h.okS s)
 have h3 := zcU s l
 have h4 := h.len
 unfold allS
 omega
end Go.Proofs.YtakilgkpfjhfdaaGreat
namespace Go.Proofs.YtakilgkpfjhfdaaGreat
open Go Go.Sl Go.RowKit
namespace MulK
theorem maskN (a : Nat) (ha : a < 18446744073709551616) : bits .and .u64 (a : Int) 4294967295 = ((a % 4294967296 : Nat) : Int) := by
 have h := bits_and_u64_nat a 4294967295 ha (by omega)
 have e : a &&& 4294967295 = a % 4294967296 := Nat.and_two_pow_sub_one_eq_mod a 32
 rw [e] at h
 exact h
theorem divN (a : Nat) : (a : Int) / 4294967296 = ((a / 4294967296 : Nat) : Int) := by omega
theorem mulN (a b : Nat) : (a : Int) * (b : Int) = ((a * b : Nat) : Int) := (Int.natCast_mul a b).symm
theorem addN (a b : Nat) : (a : Int) + (b : Int) = ((a + b : Nat) : Int) := (Int.natCast_add a b).symm
theorem wrapN (a : Nat) (ha : a < 18446744073709551616) : IntKind.u64.wrap (a : Int) = (a : Int) := by rw [IntKind.wrap_u64]; omega
theorem wrapM (a : Nat) : IntKind.u64.wrap (a : Int) = ((a % 18446744073709551616 : Nat) : Int) := by rw [IntKind.wrap_u64]; omega
end MulK
set_option maxHeartbeats 1000000 in
theorem mulK (x y : Nat) (hx : x < 18446744073709551616) (hy : y < 18446744073709551616) (w : World) :
 Calls Tryz.prog 204 #[.int .u64 x, .int .u64 y] w fun e w' => e = .returned (.tuple #[.int .u64 ((x * y / 18446744073709551616 : Nat) : Int), .int .u64 ((x * y % 18446744073709551616 : Nat) : Int)]) ∧ w' = w := by
 obtain ⟨bd, bt, bw, hhi⟩ := Lib.mul64_hi x y hx hy
 have ba := Lib.half_mul_le (a := x / 4294967296) (b := y / 4294967296) (by omega) (by omega)
 have bb := Lib.half_mul_le (a := x / 4294967296) (b := y % 4294967296) (by omega) (by omega)
 have bc := Lib.half_mul_le (a := x % 4294967296) (b := y / 4294967296) (by omega) (by omega)
 have ba' : x / 4294967296 * (y / 4294967296) < 18446744073709551616 := by omega
 have bb' : x / 4294967296 * (y % 4294967296) < 18446744073709551616 := by omega
 have bc' : x % 4294967296 * (y / 4294967296) < 18446744073709551616 := by omega
 have bh1 : x / 4294967296 * (y / 4294967296) + (x / 4294967296 * (y % 4294967296) + x % 4294967296 * (y % 4294967296) / 4294967296) / 4294967296 < 18446744073709551616 := by omega
 have bh : x / 4294967296 * (y / 4294967296) + (x / 4294967296 * (y % 4294967296) + x % 4294967296 * (y % 4294967296) / 4294967296) / 4294967296 + ((x / 4294967296 * (y % 4294967296) + x % 4294967296 * (y % 4294967296) / 4294967296) % 4294967296 + x % 4294967296 * (y / 4294967296)) / 4294967296 < 18446744073709551616 := by omega
 go_enter Tryz.func204, Tryz.ntmps204
 go_wp2
 simp only [MulK.maskN x hx, MulK.maskN y hy, MulK.divN, MulK.mulN, MulK.addN, MulK.wrapN _ bd, MulK.wrapN _ bb', MulK.wrapN _ bt, MulK.maskN _ bt, MulK.wrapN _ bc', MulK.wrapN _ bw, MulK.wrapN _ ba', MulK.wrapN _ bh1, MulK.wrapN _ bh, MulK.wrapM (x * y)]
 rw [hhi]
 go_ret2
 exact ⟨rfl, rfl⟩
theorem zqS (W : World) (x y : Nat) (hx : x < 18446744073709551616) (hy : y < 18446744073709551616) :
 zaL Tryz.prog W 204 [.int .u64 x, .int .u64 y] [] (.tuple #[.int .u64 ((x * y / 18446744073709551616 : Nat) : Int), .int .u64 ((x * y % 18446744073709551616 : Nat) : Int)]) :=
 ⟨⟨_, Tryz.func204, rfl, rfl⟩, fun h' hs w hw => (mulK x y hx hy w).mono fun e w' ⟨he, hww⟩ => ⟨he, by rw [hww]; exact hw⟩⟩
end Go.Proofs.YtakilgkpfjhfdaaGreat
namespace Go.Proofs.YtakilgkpfjhfdaaGreat
open Go Go.Sl
attribute [local irreducible] AW ES Ld RetQ
set_option maxRecDepth 100000
def orI : List Int → Int
 | [] => 0
 | x :: xs => if x = 0 then orI xs else x
theorem zj8 {xs : List Int} : ∀ {k : Nat}, (∀ (j : Nat) y, j < k → xs[j]? = some y → y = 0) → orI xs = orI (xs.drop k) := by
 induction xs with
 | nil => intro k _; simp
 | cons x xs ih =>
   intro k h
   cases k with
   | zero => rfl
   | succ k =>
     have h0 := h 0 x (by omega) rfl
     subst h0
     simp only [orI, if_true, List.drop_succ_cons]
     exact ih (fun j y hj hy => h (j + 1) y (by omega) (by simpa using hy))
theorem zpB (W : World) (h : List zax) (A : Option Addr) (n c : Nat) (xs : List Int) (hn : xs.length = n) (hr : zaJ W h A n 1 (xs.map (Value.int .i64))) (hb : n ≤ 4611686018427387903) :
 zaL Tryz.prog W 174 [.slice A n c] h (.int .i64 (orI xs)) := by
 refine zaL.of (fun h' hs => ?_)
 have hr' := hr.mono hs
 refine zan Tryz.func174 rfl rfl Tryz.results174 Tryz.ntmps174 rfl rfl ?_
 refine zaU hr' rfl (fun hA => ?_)
 repeat' (first | apply zae | apply zaa | apply zaf | apply zad | apply zab hT; iterate 4 exact rfl)
 refine zbU (α := Nat) (E := fun k => [(3, .int .i64 0), (6, .slice A n c), (7, .int .i64 n), (8, .int .i64 k)]) (H := fun _ => h') (μ := fun k => n - k)
  (S := fun k => k ≤ n ∧ ∀ (j : Nat) y, j < k → xs[j]? = some y → y = 0) 0 (J := []) ⟨Nat.zero_le _, fun j y hj => by omega⟩ ⟨rfl, rfl, rfl, rfl, trivial⟩ (List.Perm.refl _) ?_
 rintro k ⟨hk1, hk2⟩
 by_cases hlt : k < n
 ·obtain ⟨x, hx⟩ : ∃ x, xs[k]? = some x := ⟨xs[k]'(by omega), List.getElem?_eq_getElem (by omega)⟩
  have hx2 : (xs.map (Value.int .i64))[(k : Int).toNat * 1]? = some (.int .i64 x) := by simp [hx]
  have hA' := hA (by omega)
  repeat' (first | apply zae | apply zaa | apply zaj | apply zah | apply zaf | apply zad | apply zab hT; iterate 4 exact rfl | (apply zaN hT; (iterate 4 exact rfl); (iterate 2 (first | omega ))) | apply zaS hT; (iterate 8 exact rfl); (iterate 2 omega); exact hA' | apply zal; (iterate 5 exact rfl); exact zbl hT rfl rfl hr' rfl hx2 | (apply zam; exact rfl; all_goals (intro hb; (try dsimp only at hb); (try simp only [hb]); (first | replace hb := odt hb | replace hb := odf hb | replace hb := zaD hb | replace hb := zaE hb ); (try omega))))
  ·have hx0 : x ≠ 0 := by simpa using hb
   have e1 : xs[k]'(by omega) = x := by
    have := List.getElem?_eq_getElem (show k < xs.length by omega)
    rw [hx] at this
    exact (Option.some.inj this).symm
   have e2 : orI xs = x := by rw [zj8 hk2, List.drop_eq_getElem_cons (by omega), orI, e1, if_neg hx0]
   apply zch (J := [])
   ·exact rfl
   ·rw [e2]
   ·exact List.Perm.refl _
  ·have hx0 : x = 0 := by simpa using hb
   refine ⟨k + 1, [], by dsimp only; omega, ⟨by omega, fun j y hj hy => ?_⟩, ⟨rfl, rfl, rfl, rfl, trivial⟩, List.Perm.refl _⟩
   by_cases hjk : j < k
   ·exact hk2 j y hjk hy
   ·have hjk' : j = k := by omega
    rw [hjk', hx] at hy; cases hy; exact hx0
 ·repeat' (first | apply zae | apply zaa | apply zaj | apply zas | apply zad | apply zab hT; iterate 4 exact rfl | (apply zam; exact rfl; all_goals (intro hb; (try dsimp only at hb); (try simp only [hb]); (first | replace hb := odt hb | replace hb := odf hb ); (try omega))))
  exact zch (J := []) rfl (by rw [zj8 hk2, List.drop_of_length_le (by omega)]; rfl) (List.Perm.refl _)
end Go.Proofs.YtakilgkpfjhfdaaGreat
namespace Go.Proofs.YtakilgkpfjhfdaaGreat
open Go Go.Sl
attribute [local irreducible] AW ES EP Ld RetQ
set_option maxRecDepth 100000
def zhX (n : Nat) : List Value := [.int .u64 ((n / 18446744073709551616 : Nat) : Int), .int .u64 ((n % 18446744073709551616 : Nat) : Int)]
theorem znx {n : Nat} {x y : Int} (hx : x = ((n / 18446744073709551616 : Nat) : Int)) (hy : y = ((n % 18446744073709551616 : Nat) : Int)) : ([.int .u64 x, .int .u64 y] : List Value) = zhX n := by rw [hx, hy]; rfl
def gotW (n : Option Nat) : Value := match n with
 | some n => .tuple #[.agg (zhX n).toArray, .bool true]
 | none => .tuple #[.agg (zhX 0).toArray, .bool false]
theorem zny (x y : Nat) (w : World) : (callFunc 218 #[.int .u64 x, .int .u64 y, .int .u64 0]).run Tryz.prog w = .ok (.value (.tuple #[.int .u64 (((x + y) % 18446744073709551616 : Nat) : Int), .int .u64 (((x + y) / 18446744073709551616 : Nat) : Int)])) w := by
 rw [run_callFunc_extern Tryz.func218 (by kernel_rfl) (by kernel_rfl) (by kernel_rfl) (e := add64Entry) (by kernel_rfl), run_add64 x y 0 (by omega) (by omega) (by omega) (by omega)]
 simp only [Result.andThen]
 congr 5 <;> omega
theorem zlW (x y c : Nat) (hc : c ≤ 1) (w : World) : (callFunc 218 #[.int .u64 x, .int .u64 y, .int .u64 c]).run Tryz.prog w = .ok (.value (.tuple #[.int .u64 (((x + y + c) % 18446744073709551616 : Nat) : Int), .int .u64 (((x + y + c) / 18446744073709551616 : Nat) : Int)])) w := by
 rw [run_callFunc_extern Tryz.func218 (by kernel_rfl) (by kernel_rfl) (by kernel_rfl) (e := add64Entry) (by kernel_rfl), run_add64 x y c (by omega) (by omega) (by omega) (by omega)]
 simp only [Result.andThen]
 congr 5 <;> omega
theorem zgp (W : World) (a b : Nat) (ha : a ≤ 9223372036854775807) (hb : b ≤ 9223372036854775807) :
 zaL Tryz.prog W 180 [.int .i64 a, .int .i64 b] [] (gotW (some (a * b))) := by
 refine zaL.ofD (fun h' hs => ?_)
 have hm := (zqS W a b (by omega) (by omega))
 refine zan Tryz.func180 rfl rfl Tryz.results180 Tryz.ntmps180 rfl rfl ?_
 repeat' (first | apply zae | apply zaa | apply zaj | apply zah | apply zad | apply zab hT; iterate 4 exact rfl | apply zaI hT; (iterate 5 exact rfl); intro g4 | apply zit hT; (iterate 4 exact rfl); (iterate 2 omega) | (apply zac (hs := (hm.mono (by simp))); iterate 7 exact rfl) | apply zb7 hT; iterate 4 exact rfl | (apply zaF hT; (iterate 6 exact rfl); (repeat (first | exact sel0 )); (iterate 3 exact rfl); exact nle rfl) | apply zag; iterate 2 exact rfl)
 all_goals first
  | (exfalso; omega)
  | (apply zew; exact rfl; exact zaQ hT rfl rfl mem0 rfl; exact rfl; exact ⟨rfl, zat zar⟩)
theorem znz (W : World) (m n : Nat) (hs : m + n < 340282366920938463463374607431768211456) :
 zaL Tryz.prog W 203 [.agg (zhX m).toArray, .agg (zhX n).toArray] [] (gotW (some (m + n))) := by
 refine zaL.ofD (fun h' _ => ?_)
 have h0 := zny (m % 18446744073709551616) (n % 18446744073709551616)
 have h1 := zlW (m / 18446744073709551616) (n / 18446744073709551616) ((m % 18446744073709551616 + n % 18446744073709551616) / 18446744073709551616) (by omega)
 have hov : decide ((((m / 18446744073709551616 + n / 18446744073709551616 + (m % 18446744073709551616 + n % 18446744073709551616) / 18446744073709551616) / 18446744073709551616 : Nat) : Int) > 0) = false := by simp; omega
 refine zan Tryz.func203 rfl rfl Tryz.results203 Tryz.ntmps203 rfl rfl ?_
 repeat' (first | apply zae | apply zaa | apply zaj | apply zah | apply zad | apply zab hT; iterate 4 exact rfl | apply zaI hT; (iterate 5 exact rfl); intro g4 | (apply ze2; (iterate 6 exact rfl); first | intro w _; exact h0 w | intro w _; exact h1 w) | (apply zb7 hT; iterate 4 exact rfl) | (apply zaF hT; (iterate 6 exact rfl); (repeat (first | exact sel0 )); (iterate 3 exact rfl); exact nle rfl) | (apply zal; (iterate 5 exact rfl); first | (apply zaC hT; exact rfl; exact rfl; (repeat (first | exact mcs | apply mcm )); exact rfl; exact rfl) ) | (apply zaK; (iterate 5 exact rfl); intro _) | (apply zam; exact rfl; all_goals (intro hb; (try dsimp only at hb); (try simp only [hb]); (first | replace hb := odt hb | replace hb := odf hb ); (try omega))))
 all_goals first
  | (exfalso; omega)
  | (apply zew; exact rfl; exact zaQ hT rfl rfl mem0 rfl; exact rfl
     refine ⟨?_, by (repeat (first | exact zar | apply zat))⟩
     show Value.tuple #[.agg (List.toArray [.int .u64 _, .int .u64 _]), .bool true] = _
     rw [gotW, znx (n := m + n) (by omega) (by omega)])
theorem zpC (W : World) (x : Int) : zaL Tryz.prog W 219 [.int .u64 x] [] (.bool false) := by
 refine zaL.of (fun h' hs => ?_)
 refine zan Tryz.func219 rfl rfl Tryz.results219 Tryz.ntmps219 rfl rfl ?_
 repeat' (first | apply zae | apply zaa | apply zaj | apply zad | apply zab hT; iterate 4 exact rfl)
 exact zch (J := []) rfl (by simp) (List.Perm.refl _)
theorem cmpu (W : World) (x y : Int) : zaL Tryz.prog W 205 [.int .u64 x, .int .u64 y] [] (.int .i64 (cmpI x y)) := by
 refine zaL.of (fun h' hs => ?_)
 refine zan Tryz.func205 rfl rfl Tryz.results205 Tryz.ntmps205 rfl rfl ?_
 repeat' (first | apply zae | apply zaa | apply zaj | apply zah | apply zad | apply zab hT; iterate 4 exact rfl | (apply zac (hs := ((zpC W _).mono (by simp))); iterate 7 exact rfl) | apply zag; iterate 2 exact rfl | (apply zam; exact rfl; all_goals (intro hb; (try dsimp only at hb); (try simp only [hb]); (first | replace hb := odt hb | replace hb := odf hb ); (try omega))))
 ·exact zch (J := []) rfl (by simp [cmpI, hb]) (List.Perm.refl _)
 ·rename_i h1; exact zch (J := []) rfl (by simp [cmpI]; omega) (List.Perm.refl _)
 ·rename_i h1; exact zch (J := []) rfl (by simp [cmpI]; omega) (List.Perm.refl _)
def cmpW (m n : Nat) : Int := if m < n then -1 else if n < m then 1 else 0
theorem zoV (m n : Nat) : orI [cmpI ((m / 18446744073709551616 : Nat) : Int) ((n / 18446744073709551616 : Nat) : Int), cmpI ((m % 18446744073709551616 : Nat) : Int) ((n % 18446744073709551616 : Nat) : Int)] = cmpW m n := by
 unfold cmpW cmpI
 simp only [orI]
 split <;> (try split) <;> (try split) <;> (try split) <;> (try split) <;> (try split) <;> (try split) <;> omega
theorem zoW (W : World) (m n : Nat) : zaL Tryz.prog W 181 [.agg (zhX m).toArray, .agg (zhX n).toArray] [] (.int .i64 (cmpW m n)) := by
 refine zaL.ofD (fun h' hs => ?_)
 rw [← zoV]
 have hor : ∀ h g (x y : Int), zax.own (some ⟨g, 0, none⟩) 2 2 3 1 [.int .i64 x, .int .i64 y] ∈ h → zaL Tryz.prog W 174 [.slice (some ⟨g, 0, none⟩) 2 2] h (.int .i64 (orI [x, y])) := fun h g x y hm =>
  zpB W h _ 2 2 [x, y] rfl (zaJ.own hm rfl (List.all_eq_true.1 (rfl : ([.int .i64 x, .int .i64 y] : List Value).all Value.oneCell' = true))) (by omega)
 refine zan Tryz.func181 rfl rfl Tryz.results181 Tryz.ntmps181 rfl rfl ?_
 repeat' (first | apply zae | apply zaa | apply zaj | apply zad | apply zab hT; iterate 4 exact rfl | apply zaM [205] [] hmix; decide +kernel | (apply zac (hs := ((cmpu W _ _).mono (by simp))); iterate 7 exact rfl) | apply zao hT; (iterate 12 exact rfl); intro g | apply zac (hs := (hor _ _ _ _ mem0)); iterate 7 exact rfl | (apply zal; (iterate 5 exact rfl); first | (apply zaC hT; exact rfl; exact rfl; (repeat (first | exact mcs | apply mcm )); exact rfl; exact rfl) ) | apply zaK; (iterate 5 exact rfl); intro _)
 apply ret1; exact rfl
 exact ⟨rfl, by (repeat (first | exact zar | apply zat))⟩
theorem znA {α β : Type} {l : List α} {k : Nat} {x : α} (f : α → β) (h : l[k]? = some x) : (l.take (k + 1)).map f = (l.take k).map f ++ [f x] := by
 rw [List.take_add_one, h, List.map_append]; rfl
theorem zlX {l : List (Int × Int)} (h : okP l) (k : Nat) : totL (l.take k) ≤ totL l := by
 have e := zdQ (l.take k) (l.drop k)
 rw [List.take_append_drop] at e
 have := zc1 (l := l.drop k) (fun x hx => h x (List.mem_of_mem_drop hx))
 omega
theorem zlY (W : World) (p : Nat) (A : Option Addr) (c : Nat) (l : List zaA) (s : Int) (hB : zbh l) :
 zaL Tryz.prog W 201 [.pointer (some ⟨p, 0, none⟩), .int .i64 s] (za9 p A c l []) (.int .i64 (allS s l)) := by
 refine zaL.ofD (fun h' hs => ?_)
 have m1 := hs _ mem0
 have m2 := hs _ mem1
 have hlev := zgl W h' p A c l s m1 m2 hB.le hB.seq hB.side hB.left
 obtain ⟨hok, htot, _⟩ := zgn (hB.okS s)
 have hbd := zlV hB s
 have hvl := zhv (zbf s l)
 have hsl := zcU s l
 have hbl := hB.len
 unfold allS at hbd ⊢
 rw [← htot] at hbd ⊢
 generalize zbp (zbf s l) = v at hlev hok hbd hvl ⊢
 refine zan Tryz.func201 rfl rfl Tryz.results201 Tryz.ntmps201 rfl rfl ?_
 repeat' (first | apply zae | apply zaa | apply zaf | apply zad | apply zab hT; iterate 4 exact rfl | apply zaz (hs := hlev); (iterate 7 exact rfl); rintro _ _ ⟨AL, cL, rfl, rfl, hfL⟩)
 refine zbU (α := Nat) (E := fun k => [(5, .int .i64 (totL ((v.take k).map pqL))), (10, .slice AL v.length cL), (11, .int .i64 v.length), (12, .int .i64 k)]) (H := fun _ => .own AL v.length cL 276 2 (v.flatMap Lvl.enc) :: h') (μ := fun k => v.length - k)
  (S := fun k => k ≤ v.length) 0 (J := []) (Nat.zero_le _) ⟨rfl, rfl, rfl, rfl, trivial⟩ (List.Perm.refl _) ?_
 intro k hk
 by_cases hlt : k < v.length
 ·obtain ⟨x, hx⟩ : ∃ x, v[k]? = some x := ⟨v[k]'(by omega), List.getElem?_eq_getElem (by omega)⟩
  have hx2 : v[(k : Int).toNat]? = some x := by simpa using hx
  have hA := hfL.some_ (by omega)
  have hd1 : decide ((k : Int) < (v.length : Int)) = true := by simp; omega
  have hst : totL ((v.take (k + 1)).map pqL) = totL ((v.take k).map pqL) + x.qty := by
   rw [znA pqL hx, zdQ]; simp [totL, pqL]
  have h1 := zlX hok (k + 1)
  have h2 := zc1 (zfa hok k)
  have h3 := zc1 (zfa hok (k + 1))
  rw [← List.map_take] at h1 h2 h3
  rw [hst] at h1 h3
  repeat' (first | apply zae | apply zaa | apply zah | apply zaf | apply zad | apply zab hT; iterate 4 exact rfl | apply zaN hT; (iterate 4 exact rfl); (iterate 2 omega) | apply zaS hT; (iterate 8 exact rfl); (iterate 2 omega); exact hA | apply zal; (iterate 5 exact rfl); exact zaY hT rfl rfl (hfL.reads mem0) Lvl.enc_len rfl hx2 rfl | apply zaI hT; (iterate 5 exact rfl); intro g7 | (apply zaF hT; (iterate 6 exact rfl); (repeat (first | exact sel0 )); (iterate 3 exact rfl); exact nle rfl) | (apply zal; (iterate 5 exact rfl); first | (apply zaC hT; exact rfl; exact rfl; (repeat (first | exact mcs )); exact rfl; exact rfl) ) | (apply zam; exact rfl; all_goals (intro hb; (try simp only [hb]); (first | replace hb := odt hb | replace hb := odf hb ); (try omega))))
  all_goals first
   | (exfalso; omega)
   | exact zaR (k + 1) (by (try dsimp only); omega) (by (try dsimp only); omega) ⟨by (try dsimp only); rw [hst]; rfl, rfl, rfl, rfl, trivial⟩ (zat zar)
   | skip
 ·obtain rfl : k = v.length := by omega
  have hd1 : decide ((v.length : Int) < (v.length : Int)) = false := by simp
  rw [List.take_length]
  repeat' (first | apply zae | apply zaa | apply zaj | apply zas | apply zad | apply zab hT; iterate 4 exact rfl | (apply zam; exact rfl; all_goals (intro hb; (try simp only [hb]); (first | replace hb := odt hb | replace hb := odf hb ); (try omega))))
  all_goals first
   | (exfalso; omega)
   | (apply ret1; exact rfl; exact ⟨rfl, zat zar⟩)
theorem zhw (W : World) (a b : Int) (ha : 0 ≤ a ∧ a ≤ 9223372036854775807) (hb : 0 ≤ b ∧ b ≤ 9223372036854775807) :
 zaL Tryz.prog W 180 [.int .i64 a, .int .i64 b] [] (gotW (some (a * b).toNat)) := by
 obtain ⟨a, rfl⟩ := Int.eq_ofNat_of_zero_le ha.1
 obtain ⟨b, rfl⟩ := Int.eq_ofNat_of_zero_le hb.1
 have := zgp W a b (by omega) (by omega)
 rw [show ((a : Int) * (b : Int)).toNat = a * b by rw [← Int.natCast_mul, Int.toNat_natCast]]
 exact this
theorem zlZ {l : List (Int × Int)} {k : Nat} {x : Int × Int} (hok : okP l) (hx : l[k]? = some x) {q : Int} (hq : 0 ≤ q) :
 zcl (l.take (k + 1)) q = zcl (l.take k) q + x.1 * min (q - min q (totL (l.take k))) x.2 ∧ q - min q (totL (l.take (k + 1))) = q - min q (totL (l.take k)) - min (q - min q (totL (l.take k))) x.2 := by
 have e : l.take (k + 1) = l.take k ++ [x] := by rw [List.take_add_one, hx]; rfl
 have hok1 := zfa hok k
 have h1 := zc1 hok1
 have h2 := (hok x (List.mem_of_getElem? hx)).2.2
 refine ⟨?_, ?_⟩
 ·rw [e, zdv hok1 hq]
  show _ + zcl [(x.1, x.2)] _ = _
  rw [zlT]
 ·rw [e, zdQ]
  have : totL [x] = x.2 := by simp [totL]
  rw [this]; omega
theorem zoX {p n : Int} (h1 : 1 ≤ p) (h2 : p ≤ 1000000) (h3 : 0 ≤ n) : 0 ≤ p * n ∧ p * n ≤ 1000000 * n :=
 ⟨Int.mul_nonneg (by omega) h3, Int.mul_le_mul_of_nonneg_right h2 h3⟩
set_option maxHeartbeats 2000000 in
theorem zjs (W : World) (p : Nat) (A : Option Addr) (c : Nat) (l : List zaA) (s q : Int) (hB : zbh l) :
 zaL Tryz.prog W 179 [.pointer (some ⟨p, 0, none⟩), .int .i64 s, .int .i64 q] (za9 p A c l []) (gotW (zgo s l q)) := by
 refine zaL.ofD (fun h' hs => ?_)
 have m1 := hs _ mem0
 have m2 := hs _ mem1
 have hlev := fun X => zgl W (X :: h') p A c l s (.tail _ m1) (.tail _ m2) hB.le hB.seq hB.side hB.left
 have hall := (zlY W p A c l s hB)
 obtain ⟨hok, htot, hcost⟩ := zgn (hB.okS s)
 have hbd := zlV hB s
 have hvl := zhv (zbf s l)
 have hsl := zcU s l
 have hbl := hB.len
 refine zan Tryz.func179 rfl rfl Tryz.results179 Tryz.ntmps179 rfl rfl ?_
 by_cases hno : q < 1 ∨ allS s l < q
 ·have hv : zgo s l q = none := by unfold zgo; rw [if_pos hno]
  rw [hv]
  repeat' (first | apply zae | apply zaa | apply zaj | apply zad | apply zab hT; iterate 4 exact rfl | apply zaq; iterate 3 exact rfl | apply zaI hT; (iterate 5 exact rfl); intro g6 | apply zac (hs := (hall.mono (zbD (.tail _ m1) (.tail _ m2)))); iterate 7 exact rfl | apply zb7 hT; iterate 4 exact rfl | (apply zaF hT; (iterate 6 exact rfl); (repeat (first | exact sel0 )); (iterate 3 exact rfl); exact nle rfl) | apply zak; iterate 2 exact rfl | (apply zav; exact rfl; all_goals (intro hb; (try simp only [hb]); (first | replace hb := odt hb | replace hb := odf hb ); (try omega))) | (apply zam; exact rfl; all_goals (intro hb; (try simp only [hb]); (first | replace hb := odt hb | replace hb := odf hb ); (try omega))))
  all_goals first
   | (exfalso; omega)
   | (apply zew; exact rfl; exact zaQ hT rfl rfl mem0 rfl; exact rfl; exact ⟨rfl, zat zar⟩)
 ·have hv : zgo s l q = some (zcl ((zbp (zbf s l)).map pqL) q).toNat := by unfold zgo; rw [if_neg hno, hcost q (by omega)]
  rw [hv]
  have hq1 : ¬ q < 1 := fun h => hno (.inl h)
  have hq2 : q ≤ allS s l := by
   rcases Int.lt_or_le (allS s l) q with h | h
   ·exact absurd (.inr h) hno
   ·exact h
  generalize hall' : allS s l = al at hall hbd hq2
  unfold allS at hall'
  rw [← htot] at hall'
  generalize zbp (zbf s l) = v at hlev hok hvl hall' ⊢
  repeat' (first | apply zae | apply zaa | apply zah | apply zaf | apply zad | apply zab hT; iterate 4 exact rfl | apply zaI hT; (iterate 5 exact rfl); intro g6 | apply zac (hs := (hall.mono (zbD (.tail _ m1) (.tail _ m2)))); iterate 7 exact rfl | apply zaz (hs := (hlev _)); (iterate 7 exact rfl); rintro _ _ ⟨AL, cL, rfl, rfl, hfL⟩ | (apply zav; exact rfl; all_goals (intro hb; (try simp only [hb]); (first | replace hb := odt hb | replace hb := odf hb ); (try omega))) | (apply zam; exact rfl; all_goals (intro hb; (try simp only [hb]); (first | replace hb := odt hb | replace hb := odf hb ); (try omega))))
  all_goals try omega
  refine zbU (α := Nat) (E := fun k => [(2, .int .i64 (q - min q (totL ((v.map pqL).take k)))), (6, .pointer (some ⟨g6, 0, none⟩)), (25, .slice AL v.length cL), (26, .int .i64 v.length), (27, .int .i64 k)])
   (H := fun k => .blk g6 250 (zhX (zcl ((v.map pqL).take k) q).toNat) :: .own AL v.length cL 276 2 (v.flatMap Lvl.enc) :: h') (μ := fun k => v.length - k)
   (S := fun k => k ≤ v.length) 0 (J := []) (Nat.zero_le _) ⟨by rw [List.take_zero, show q - min q (totL []) = q by simp [totL]; omega]; rfl, rfl, rfl, rfl, rfl, trivial⟩ (by rw [List.take_zero, show (zcl [] q).toNat = 0 from rfl]; exact sel1) ?_
  intro k hk
  by_cases hlt : k < v.length
  ·obtain ⟨x, hx⟩ : ∃ x, v[k]? = some x := ⟨v[k]'(by omega), List.getElem?_eq_getElem (by omega)⟩
   have hx2 : v[(k : Int).toNat]? = some x := by simpa using hx
   have hA := hfL.some_ (by omega)
   have hd1 : decide ((k : Int) < (v.length : Int)) = true := by simp; omega
   have hxm : (v.map pqL)[k]? = some (x.price, x.qty) := by simp [hx, pqL]
   have hxo := hok _ (List.mem_of_getElem? hxm)
   obtain ⟨st1, st2⟩ := zlZ hok hxm (q := q) (by omega)
   dsimp only at st1 st2 hxo
   have hb0 := zjr (zfa hok k) (q := q) (by omega)
   have ht0 := zc1 (zfa hok k)
   generalize zcl ((v.map pqL).take k) q = co at hb0 st1 ⊢
   generalize totL ((v.map pqL).take k) = tk at hb0 ht0 st1 st2 ⊢
   generalize hn : min (q - min q tk) x.qty = n at st1 st2
   have hsb := zoX (n := n) hxo.1 hxo.2.1 (by omega)
   have hTm := zhw W x.price n (by omega) (by omega)
   have hPl := znz W co.toNat (x.price * n).toNat (by omega)
   rw [show co.toNat + (x.price * n).toNat = (co + x.price * n).toNat by omega] at hPl
   repeat' (first | apply zae | apply zaa | apply zah | apply zaf | apply zad | apply zab hT; iterate 4 exact rfl | apply zaN hT; (iterate 4 exact rfl); (iterate 2 omega) | apply zaS hT; (iterate 8 exact rfl); (iterate 2 omega); exact hA | apply zal; (iterate 5 exact rfl); exact zaY hT rfl rfl (hfL.reads mem1) Lvl.enc_len rfl hx2 rfl | apply zaI hT; (iterate 5 exact rfl); intro g7 | apply zjZ; (iterate 5 exact rfl); rw [hn] | (apply zac (hs := (hTm.mono (by simp))); iterate 7 exact rfl) | (apply zac (hs := (hPl.mono (by simp))); iterate 7 exact rfl) | (apply zaF hT; (iterate 6 exact rfl); (repeat (first | exact sel0 | apply selS)); (iterate 3 exact rfl); exact nle rfl) | (apply zal; (iterate 5 exact rfl); first | (apply zaC hT; exact rfl; exact rfl; (repeat (first | exact mcs )); exact rfl; exact rfl) | (apply zaQ hT; exact rfl; exact rfl; (repeat (first | exact mcs | apply mcm)); exact rfl)) | (apply zam; exact rfl; all_goals (intro hb; (try simp only [hb]); (first | replace hb := odt hb | replace hb := odf hb ); (try omega))))
   all_goals first
    | (exfalso; omega)
    | (refine zaR (k + 1) (by (try dsimp only); omega) (by (try dsimp only); omega) ⟨by (try dsimp only); rw [st2]; rfl, rfl, rfl, rfl, rfl, trivial⟩ ?_
       (try dsimp only)
       rw [st1]
       apply zay; (repeat (first | exact sel0))
       apply zay; (repeat (first | exact sel0 | apply selS))
       (repeat (first | exact zar | apply zat)))
    | skip
  ·obtain rfl : k = v.length := by omega
   have hd1 : decide ((v.length : Int) < (v.length : Int)) = false := by simp
   have e : (v.map pqL).take v.length = v.map pqL := List.take_of_length_le (by simp)
   rw [e]
   repeat' (first | apply zae | apply zaa | apply zaj | apply zas | apply zad | apply zab hT; iterate 4 exact rfl | (apply zaF hT; (iterate 6 exact rfl); (repeat (first | exact sel0 )); (iterate 3 exact rfl); exact nle rfl) | (apply zal; (iterate 5 exact rfl); first | (apply zaQ hT; exact rfl; exact rfl; (repeat (first | exact mcs )); exact rfl)) | (apply zam; exact rfl; all_goals (intro hb; (try simp only [hb]); (first | replace hb := odt hb | replace hb := odf hb ); (try omega))))
   all_goals first
    | (exfalso; omega)
    | (apply zew; exact rfl; exact zaQ hT rfl rfl mem0 rfl; exact rfl; exact ⟨rfl, by (repeat (first | exact zar | apply zat))⟩)
    | skip
theorem zoY {l : List zaA} (h : ∀ o ∈ l, 1 ≤ o.left ∧ o.left ≤ 1000000) : 0 ≤ sumL l ∧ sumL l ≤ 1000000 * l.length := by
 induction l with
 | nil => simp [sumL]
 | cons x l ih =>
   have hx := h x mcs
   have := ih (fun y hy => h y (mcm _ hy))
   simp only [sumL, List.map_cons, List.sum_cons, List.length_cons] at *
   omega
def zcG (s : Int) : Int := if isB s then 3 - s else 0
theorem zjt {s : Int} (h : isB s = true) : s = 1 ∨ s = 2 := by simpa [isB] using h
theorem zfB (W : World) (s : Int) : zaL Tryz.prog W 178 [.int .i64 s] [] (.int .i64 (zcG s)) := by
 refine zaL.ofD (fun h' hs => ?_)
 have hI := zd7 W s
 cases hb : isB s
 ·rw [hb] at hI
  refine zan Tryz.func178 rfl rfl Tryz.results178 Tryz.ntmps178 rfl rfl ?_
  repeat' (first | apply zae | apply zaa | apply zaj | apply zad | apply zab hT; iterate 4 exact rfl | (apply zac (hs := (hI.mono (by simp))); iterate 7 exact rfl) | apply zak; iterate 2 exact rfl)
  apply ret1; exact rfl
  exact ⟨by simp [zcG, hb], by (repeat (first | exact zar))⟩
 ·rw [hb] at hI
  have h2 := zjt hb
  refine zan Tryz.func178 rfl rfl Tryz.results178 Tryz.ntmps178 rfl rfl ?_
  repeat' (first | apply zae | apply zaa | apply zaj | apply zah | apply zad | apply zab hT; iterate 4 exact rfl | apply zaN hT; (iterate 4 exact rfl); (iterate 2 omega) | (apply zac (hs := (hI.mono (by simp))); iterate 7 exact rfl) | apply zag; iterate 2 exact rfl)
  apply ret1; exact rfl
  exact ⟨by simp [zcG, hb], by (repeat (first | exact zar))⟩
def zeC (s price qty : Int) (l : List zaA) : Int := if isB s = false ∨ price < 1 ∨ qty < 1 then 1 else
 match zgo (zcG s) l qty with
 | none => 0
 | some m => if (s = 1 ∧ m < (price * qty).toNat) ∨ (s = 2 ∧ (price * qty).toNat < m) then 13 else 0
theorem cmp3 (m n : Nat) : (m < n ∧ cmpW m n = -1) ∨ (m = n ∧ cmpW m n = 0) ∨ (n < m ∧ cmpW m n = 1) := by
 unfold cmpW
 rcases Nat.lt_trichotomy m n with h | h | h
 ·exact .inl ⟨h, if_pos h⟩
 ·exact .inr (.inl ⟨h, by rw [if_neg (by omega), if_neg (by omega)]⟩)
 ·exact .inr (.inr ⟨h, by rw [if_neg (by omega), if_pos h]⟩)
set_option maxHeartbeats 1000000 in
theorem zkH (W : World) (p : Nat) (A : Option Addr) (c : Nat) (l : List zaA) (s price qty : Int) (hB : zbh l) (hp : price ≤ 9223372036854775807) (hq : qty ≤ 9223372036854775807) :
 zaL Tryz.prog W 155 [.pointer (some ⟨p, 0, none⟩), .int .i64 s, .int .i64 price, .int .i64 qty] (za9 p A c l []) (.int .i64 (zeC s price qty l)) := by
 refine zaL.ofD (fun h' hs => ?_)
 have m1 := hs _ mem0
 have m2 := hs _ mem1
 have hI := zd7 W s
 have hO := zfB W s
 refine zan Tryz.func155 rfl rfl Tryz.results155 Tryz.ntmps155 rfl rfl ?_
 cases hb : isB s
 ·rw [hb] at hI
  repeat' (first | apply zae | apply zaa | apply zaj | apply zad | apply zab hT; iterate 4 exact rfl | apply zaq; iterate 3 exact rfl | (apply zac (hs := (hI.mono (by simp))); iterate 7 exact rfl) | apply zak; iterate 2 exact rfl)
  apply ret1; exact rfl
  exact ⟨by simp [zeC, hb], by (repeat (first | exact zar))⟩
 rw [hb] at hI
 have h2 := zjt hb
 by_cases hbad : price < 1 ∨ qty < 1
 ·have hv : zeC s price qty l = 1 := by simp [zeC, hb, hbad]
  rw [hv]
  repeat' (first | apply zae | apply zaa | apply zaj | apply zad | apply zab hT; iterate 4 exact rfl | apply zaq; iterate 3 exact rfl | (apply zac (hs := (hI.mono (by simp))); iterate 7 exact rfl) | apply zak; iterate 2 exact rfl | (apply zav; exact rfl; all_goals (intro hb; (try simp only [hb]); (first | replace hb := odt hb | replace hb := odf hb ); (try omega))) | (apply zam; exact rfl; all_goals (intro hb; (try simp only [hb]); (first | replace hb := odt hb | replace hb := odf hb ); (try omega))))
  all_goals first
   | (exfalso; omega)
   | (apply ret1; exact rfl; exact ⟨rfl, by (repeat (first | exact zar))⟩)
 have hnb : ¬ (isB s = false ∨ price < 1 ∨ qty < 1) := by rw [hb]; simp; omega
 have hsw := zjs W p A c l (zcG s) qty hB
 cases hm : zgo (zcG s) l qty with
 | none =>
   have hv : zeC s price qty l = 0 := by unfold zeC; rw [if_neg hnb, hm]
   rw [hv]
   rw [hm] at hsw
   repeat' (first | apply zae | apply zaa | apply zaj | apply zah | apply zad | apply zab hT; iterate 4 exact rfl | (apply zac (hs := (hI.mono (by simp))); iterate 7 exact rfl) | (apply zac (hs := (hO.mono (by simp))); iterate 7 exact rfl) | apply zac (hs := (hsw.mono (zbD m1 m2))); iterate 7 exact rfl | apply zaI hT; (iterate 5 exact rfl); intro g9 | (apply zaF hT; (iterate 6 exact rfl); (repeat (first | exact sel0 )); (iterate 3 exact rfl); exact nle rfl) | apply zak; iterate 2 exact rfl | (apply zav; exact rfl; all_goals (intro hb; (try simp only [hb]); (first | replace hb := odt hb | replace hb := odf hb ); (try omega))) | (apply zam; exact rfl; all_goals (intro hb; (try simp only [hb]); (first | replace hb := odt hb | replace hb := odf hb ); (try omega))))
   all_goals first
    | (exfalso; omega)
    | (apply ret1; exact rfl; exact ⟨rfl, by (repeat (first | exact zar | apply zat))⟩)
 | some m =>
   have hv : zeC s price qty l = if (s = 1 ∧ m < (price * qty).toNat) ∨ (s = 2 ∧ (price * qty).toNat < m) then 13 else 0 := by unfold zeC; rw [if_neg hnb, hm]
   rw [hv]
   rw [hm] at hsw
   have hT1 := zhw W price qty (by omega) (by omega)
   have hC := zoW W m (price * qty).toNat
   obtain ⟨n, hn⟩ : ∃ n, (price * qty).toNat = n := ⟨_, rfl⟩
   rw [hn] at hT1 hC
   rcases cmp3 m n with ⟨c1, c2⟩ | ⟨c1, c2⟩ | ⟨c1, c2⟩
   all_goals
    rw [c2] at hC
    rcases h2 with rfl | rfl
    all_goals
     repeat' (first | apply zae | apply zaa | apply zaj | apply zah | apply zad | apply zab hT; iterate 4 exact rfl | apply zaq; iterate 3 exact rfl | (apply zac (hs := (hI.mono (by simp))); iterate 7 exact rfl) | (apply zac (hs := (hO.mono (by simp))); iterate 7 exact rfl) | apply zac (hs := (hsw.mono (zbD m1 m2))); iterate 7 exact rfl | (apply zac (hs := (hT1.mono (by simp))); iterate 7 exact rfl) | (apply zac (hs := (hC.mono (by simp))); iterate 7 exact rfl) | apply zaI hT; (iterate 5 exact rfl); intro g9 | (apply zaF hT; (iterate 6 exact rfl); (repeat (first | exact sel0 )); (iterate 3 exact rfl); exact nle rfl) | (apply zal; (iterate 5 exact rfl); first | (apply zaQ hT; exact rfl; exact rfl; (repeat (first | exact mcs | apply mcm)); exact rfl)) | apply zak; iterate 2 exact rfl | apply zag; iterate 2 exact rfl | (apply zav; exact rfl; all_goals (intro hb; (try simp only [hb]); (first | replace hb := odt hb | replace hb := odf hb ); (try omega))) | (apply zam; exact rfl; all_goals (intro hb; (try simp only [hb]); (first | replace hb := odt hb | replace hb := odf hb ); (try omega))))
     all_goals first
      | (exfalso; omega)
      | (apply ret1; exact rfl
         refine ⟨?_, by (repeat (first | exact zar | apply zat))⟩
         congr 1
         split <;> first | rfl | exfalso; rename_i hx; simp only [true_and] at hx; omega)
end Go.Proofs.YtakilgkpfjhfdaaGreat
namespace Go.Proofs.YtakilgkpfjhfdaaGreat
open Go Go.Sl
structure zbW where
 maker : Int
 taker : Int
 mparty : Int
 tparty : Int
 price : Int
 qty : Int
 left : Int
 deriving DecidableEq
def zbW.enc (f : zbW) : List Value := [.int .i64 f.maker, .int .i64 f.taker, .int .i64 f.mparty, .int .i64 f.tparty, .int .i64 f.price, .int .i64 f.qty, .int .i64 f.left]
theorem zbW.enc_len (f : zbW) : f.enc.length = 7 := rfl
theorem zbW.enc_one (f : zbW) : ∀ x ∈ f.enc, x.oneCell' = true := List.all_eq_true.1 (rfl : f.enc.all Value.oneCell' = true)
structure zcL where
 id : Int
 owner : Int
 left : Int
 deriving DecidableEq
def zcL.enc (f : zcL) : List Value := [.int .i64 f.id, .int .i64 f.owner, .int .i64 f.left]
theorem zcL.enc_len (f : zcL) : f.enc.length = 3 := rfl
theorem zcL.enc_one (f : zcL) : ∀ x ∈ f.enc, x.oneCell' = true := List.all_eq_true.1 (rfl : f.enc.all Value.oneCell' = true)
def zeD (how : Int) (o x : zaA) : Bool := how == 4 || (isB o.side && !zct o.side x.price o.price)
def zbF (how : Int) (o : zaA) (l : List zaA) : List zaA := (zbf (zcG o.side) l).takeWhile (zeD how o)
structure XSt where
 left : Int
 bk : List zaA
 fills : List zbW
 gones : List zcL
def zdV (o : zaA) (s : XSt) (x : zaA) : XSt :=
 if s.left = 0 then s else if x.owner = o.owner then ⟨s.left, zbu x.id s.bk, s.fills, s.gones ++ [⟨x.id, x.owner, x.left⟩]⟩
 else ⟨s.left - min s.left x.left, if min s.left x.left = x.left then zbu x.id s.bk else zcd x.id (x.left - min s.left x.left) s.bk,
  s.fills ++ [⟨x.id, o.id, x.owner, o.owner, x.price, min s.left x.left, x.left - min s.left x.left⟩], s.gones⟩
def runX (o : zaA) (l : List zaA) (ms : List zaA) : XSt := ms.foldl (zdV o) ⟨o.left, l, [], []⟩
def zcR (o : zaA) (ms : List zaA) : List zaA := ms.filter fun x => !(x.owner == o.owner)
def zfP (how : Int) (o : zaA) (l : List zaA) : Int := if isB o.side then max (min (sumL (zcR o (zbF how o l))) o.left) 0 else 0
def asX (how : Int) (o : zaA) : zaA := if how = 4 then { o with price := 1 } else o
def newB (how : Int) (o : zaA) (l : List zaA) : Bool := decide (0 ≤ how) && (decide (how ≤ 4) && (!(how == 4 && !(o.price == 0)) && (okO (asX how o) && decide (za4 (zbt o) l < 0))))
def zcg (how : Int) : Bool := how == 0 || how == 3
def zbP (how : Int) (o : zaA) (l : List zaA) : Int :=
 if newB how o l = false then 1 else if zcg how = true ∧ l.length ≥ 64 then 3 else if how = 3 ∧ (zbF how o l).length > 0 then 16
 else if how = 2 ∧ zfP how o l < o.left then 17 else 0
structure zqT where
 fills : List zbW
 gones : List zcL
 left : Int
 err : Int
 bk : List zaA
def zdW (how : Int) (o : zaA) (s : XSt) : List zaA := if zcg how = true ∧ s.left > 0 then addO { o with left := s.left } s.bk else s.bk
def doV (how : Int) (o : zaA) (l : List zaA) : zqT :=
 if zbP how o l = 0 then
  let s := runX o l (zbF how o l)
  ⟨s.fills, s.gones, s.left, 0, zdW how o s⟩
 else ⟨[], [], 0, zbP how o l, l⟩
/-! ### the book along the way -/
theorem zbh.drop {l : List zaA} (h : zbh l) (id : Int) : zbh (zbu id l) := h.sub (ze8 id l)
theorem zoZ {o : zaA} {s : XSt} {x : zaA} (h : zbh s.bk) : zbh (zdV o s x).bk := by
 unfold zdV
 split
 ·exact h
 ·split
  ·exact h.drop _
  ·dsimp only
   split
   ·exact h.drop _
   ·exact h.lessAny _ _
theorem zl0 {o : zaA} : ∀ (ms : List zaA) (s : XSt), zbh s.bk → zbh (ms.foldl (zdV o) s).bk
 | [], _, h => h
 | x :: ms, s, h => by rw [List.foldl_cons]; exact zl0 ms _ (zoZ h)
theorem zl1 {o : zaA} {l ms : List zaA} (h : zbh l) : zbh (runX o l ms).bk := zl0 ms _ h
theorem zqU {how : Int} {o : zaA} {l : List zaA} (h : zbh l) : zbh (doV how o l).bk := by
 unfold doV
 split
 ·dsimp only
  unfold zdW
  split
  ·exact (zl1 h).add _
  ·exact zl1 h
 ·exact h
theorem zkI {o : zaA} {s : XSt} (h : s.left = 0) (x : zaA) : zdV o s x = s := by unfold zdV; rw [if_pos h]
theorem zhx {o : zaA} {s : XSt} (h : s.left = 0) : ∀ ms : List zaA, ms.foldl (zdV o) s = s
 | [] => rfl
 | x :: ms => by rw [List.foldl_cons, zkI h, zhx h ms]
theorem zkJ {o : zaA} {s : XSt} {x : zaA} (hx : 1 ≤ x.left) (h : 0 ≤ s.left) : 0 ≤ (zdV o s x).left ∧ (zdV o s x).left ≤ s.left := by
 unfold zdV
 split
 ·exact ⟨h, Int.le_refl _⟩
 ·split
  ·exact ⟨h, Int.le_refl _⟩
  ·dsimp only; omega
/-! ### the first one gone -/
end Go.Proofs.YtakilgkpfjhfdaaGreat
