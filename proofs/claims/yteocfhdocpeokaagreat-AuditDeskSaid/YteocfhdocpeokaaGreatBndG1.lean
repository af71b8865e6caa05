/- The statements' walks, and what they stand on, joined into few texts: part 1. Conditions stand in each statement. -/
import Derived.Test.YteocfhdocpeokaaGreatBndG0
set_option maxHeartbeats 16000000
set_option linter.all false
namespace Go.Proofs.YteocfhdocpeokaaGreat
open Go Go.Sl
def ti2 :TI:=⟨.int .i64,1,8,.int .i64 0⟩
def ti3 :TI:=⟨.int .i64,1,8,.int .i64 0⟩
def ti4 :TI:=⟨.bool,1,1,.bool false⟩
def ti5 :TI:=⟨.int .u8,1,1,.int .u8 0⟩
def ti6 :TI:=⟨.int .u8,1,1,.int .u8 0⟩
def ti7 : TI := ⟨.struct #[⟨"x", 2, 0, false, "", "runtime", 0⟩, ⟨"y", 3, 1, false, "", "runtime", 8⟩, ⟨"signed", 4, 2, false, "", "runtime", 16⟩, ⟨"code", 6, 3, false, "", "runtime", 17⟩], 4, 24, .agg #[.int .i64 0, .int .i64 0, .bool false, .int .u8 0]⟩
def ti8 : TI := ⟨.struct #[⟨"x", 2, 0, false, "", "runtime", 0⟩, ⟨"y", 3, 1, false, "", "runtime", 8⟩, ⟨"signed", 4, 2, false, "", "runtime", 16⟩, ⟨"code", 6, 3, false, "", "runtime", 17⟩], 4, 24, .agg #[.int .i64 0, .int .i64 0, .bool false, .int .u8 0]⟩
def ti9 :TI:=⟨.string,1,16,.string ⟨#[]⟩⟩
def ti10 :TI:=⟨.string,1,16,.string ⟨#[]⟩⟩
def ti11 :TI:=⟨.string,1,16,.string ⟨#[]⟩⟩
def ti12 :TI:=⟨.int .u64,1,8,.int .u64 0⟩
def ti13 : TI := ⟨.struct #[⟨"msg", 9, 0, false, "", "runtime", 0⟩, ⟨"addr", 12, 1, false, "", "runtime", 16⟩], 2, 24, .agg #[.string ⟨#[]⟩, .int .u64 0]⟩
def ti14 : TI := ⟨.struct #[⟨"msg", 9, 0, false, "", "runtime", 0⟩, ⟨"addr", 12, 1, false, "", "runtime", 16⟩], 2, 24, .agg #[.string ⟨#[]⟩, .int .u64 0]⟩
def ti15 :TI:=⟨.pointer 315,1,8,.pointer none⟩
def ti16 :TI:=⟨.pointer 318,1,8,.pointer none⟩
def ti17 :TI:=⟨.pointer 326,1,8,.pointer none⟩
def ti18 : TI := ⟨.struct #[⟨"typ", 17, 0, false, "", "internal/runtime/maps", 0⟩], 1, 8, .agg #[.pointer none]⟩
def ti19 : TI := ⟨.struct #[⟨"typ", 17, 0, false, "", "internal/runtime/maps", 0⟩], 1, 8, .agg #[.pointer none]⟩
def ti21 :TI:=⟨.int .i32,1,4,.int .i32 0⟩
def ti22 :TI:=⟨.slice 30,1,24,.slice none 0 0⟩
def ti23 :TI:=⟨.pointer 69,1,8,.pointer none⟩
def ti25 :TI:=⟨.pointer 71,1,8,.pointer none⟩
def ti27 :TI:=⟨.int .i64,1,8,.int .i64 0⟩
def ti29 : TI := ⟨.struct #[⟨"ID", 2, 0, false, "", "", 0⟩, ⟨"Bond", 3, 1, false, "", "", 8⟩, ⟨"Buyer", 3, 2, false, "", "", 16⟩, ⟨"Seller", 3, 3, false, "", "", 24⟩, ⟨"Price", 2, 4, false, "", "", 32⟩, ⟨"Qty", 2, 5, false, "", "", 40⟩, ⟨"Ask", 2, 6, false, "", "", 48⟩, ⟨"Tick", 2, 7, false, "", "", 56⟩], 8, 64, .agg #[.int .i64 0, .int .i64 0, .int .i64 0, .int .i64 0, .int .i64 0, .int .i64 0, .int .i64 0, .int .i64 0]⟩
def ti30 : TI := ⟨.struct #[⟨"ID", 2, 0, false, "", "", 0⟩, ⟨"Bond", 3, 1, false, "", "", 8⟩, ⟨"Buyer", 3, 2, false, "", "", 16⟩, ⟨"Seller", 3, 3, false, "", "", 24⟩, ⟨"Price", 2, 4, false, "", "", 32⟩, ⟨"Qty", 2, 5, false, "", "", 40⟩, ⟨"Ask", 2, 6, false, "", "", 48⟩, ⟨"Tick", 2, 7, false, "", "", 56⟩], 8, 64, .agg #[.int .i64 0, .int .i64 0, .int .i64 0, .int .i64 0, .int .i64 0, .int .i64 0, .int .i64 0, .int .i64 0]⟩
def ti36 :TI:=⟨.slice 39,1,24,.slice none 0 0⟩
def ti37 :TI:=⟨.slice 44,1,24,.slice none 0 0⟩
def ti39 :TI:=⟨.slice 42,1,24,.slice none 0 0⟩
def ti40 :TI:=⟨.array 6 2,6,48,.agg #[.int .i64 0,.int .i64 0,.int .i64 0,.int .i64 0,.int .i64 0,.int .i64 0]⟩
def ti41 : TI := ⟨.struct #[⟨"Kind", 3, 0, false, "", "", 0⟩, ⟨"F", 40, 1, false, "", "", 8⟩], 7, 56, .agg #[.int .i64 0, .int .i64 0, .int .i64 0, .int .i64 0, .int .i64 0, .int .i64 0, .int .i64 0]⟩
def ti42 : TI := ⟨.struct #[⟨"Kind", 3, 0, false, "", "", 0⟩, ⟨"F", 40, 1, false, "", "", 8⟩], 7, 56, .agg #[.int .i64 0, .int .i64 0, .int .i64 0, .int .i64 0, .int .i64 0, .int .i64 0, .int .i64 0]⟩
def ti43 : TI := ⟨.struct #[⟨"To", 3, 0, false, "", "", 0⟩, ⟨"Msg", 42, 1, false, "", "", 8⟩], 8, 64, .agg #[.int .i64 0, .int .i64 0, .int .i64 0, .int .i64 0, .int .i64 0, .int .i64 0, .int .i64 0, .int .i64 0]⟩
def ti44 : TI := ⟨.struct #[⟨"To", 3, 0, false, "", "", 0⟩, ⟨"Msg", 42, 1, false, "", "", 8⟩], 8, 64, .agg #[.int .i64 0, .int .i64 0, .int .i64 0, .int .i64 0, .int .i64 0, .int .i64 0, .int .i64 0, .int .i64 0]⟩
def ti46 :TI:=⟨.slice 73,1,24,.slice none 0 0⟩
def ti49 :TI:=⟨.slice 59,1,24,.slice none 0 0⟩
def ti50 :TI:=⟨.slice 95,1,24,.slice none 0 0⟩
def ti51 :TI:=⟨.slice 97,1,24,.slice none 0 0⟩
def ti52 : TI := ⟨.struct #[⟨"Bonds", 50, 0, false, "", "", 0⟩, ⟨"Parties", 51, 1, false, "", "", 24⟩, ⟨"Look", 2, 2, false, "", "", 48⟩, ⟨"Beat", 2, 3, false, "", "", 56⟩], 4, 64, .agg #[.slice none 0 0, .slice none 0 0, .int .i64 0, .int .i64 0]⟩
def ti53 : TI := ⟨.struct #[⟨"Bonds", 50, 0, false, "", "", 0⟩, ⟨"Parties", 51, 1, false, "", "", 24⟩, ⟨"Look", 2, 2, false, "", "", 48⟩, ⟨"Beat", 2, 3, false, "", "", 56⟩], 4, 64, .agg #[.slice none 0 0, .slice none 0 0, .int .i64 0, .int .i64 0]⟩
def ti55 :TI:=⟨.pointer 112,1,8,.pointer none⟩
def ti58 : TI := ⟨.struct #[⟨"Kind", 3, 0, false, "", "", 0⟩, ⟨"Who", 3, 1, false, "", "", 8⟩, ⟨"N", 2, 2, false, "", "", 16⟩, ⟨"Msg", 42, 3, false, "", "", 24⟩], 10, 80, .agg #[.int .i64 0, .int .i64 0, .int .i64 0, .int .i64 0, .int .i64 0, .int .i64 0, .int .i64 0, .int .i64 0, .int .i64 0, .int .i64 0]⟩
def ti59 : TI := ⟨.struct #[⟨"Kind", 3, 0, false, "", "", 0⟩, ⟨"Who", 3, 1, false, "", "", 8⟩, ⟨"N", 2, 2, false, "", "", 16⟩, ⟨"Msg", 42, 3, false, "", "", 24⟩], 10, 80, .agg #[.int .i64 0, .int .i64 0, .int .i64 0, .int .i64 0, .int .i64 0, .int .i64 0, .int .i64 0, .int .i64 0, .int .i64 0, .int .i64 0]⟩
def ti62 :TI:=⟨.slice 87,1,24,.slice none 0 0⟩
def ti66 :TI:=⟨.slice 2,1,24,.slice none 0 0⟩
def ti67 :TI:=⟨.slice 66,1,24,.slice none 0 0⟩
def ti68 : TI := ⟨.struct #[⟨"bonds", 67, 0, false, "", "consols/pos", 0⟩, ⟨"cash", 66, 1, false, "", "consols/pos", 24⟩], 2, 48, .agg #[.slice none 0 0, .slice none 0 0]⟩
def ti69 : TI := ⟨.struct #[⟨"bonds", 67, 0, false, "", "consols/pos", 0⟩, ⟨"cash", 66, 1, false, "", "consols/pos", 24⟩], 2, 48, .agg #[.slice none 0 0, .slice none 0 0]⟩
def ti70 : TI := ⟨.struct #[⟨"B", 67, 0, false, "", "", 0⟩, ⟨"C", 66, 1, false, "", "", 24⟩], 2, 48, .agg #[.slice none 0 0, .slice none 0 0]⟩
def ti71 : TI := ⟨.struct #[⟨"B", 67, 0, false, "", "", 0⟩, ⟨"C", 66, 1, false, "", "", 24⟩], 2, 48, .agg #[.slice none 0 0, .slice none 0 0]⟩
def ti73 :TI:=⟨.int .u64,1,8,.int .u64 0⟩
def ti74 : TI := ⟨.struct #[⟨"Hi", 73, 0, false, "", "", 0⟩, ⟨"Lo", 73, 1, false, "", "", 8⟩], 2, 16, .agg #[.int .u64 0, .int .u64 0]⟩
def ti75 : TI := ⟨.struct #[⟨"Hi", 73, 0, false, "", "", 0⟩, ⟨"Lo", 73, 1, false, "", "", 8⟩], 2, 16, .agg #[.int .u64 0, .int .u64 0]⟩
def ti86 : TI := ⟨.struct #[⟨"ID", 2, 0, false, "", "", 0⟩, ⟨"Client", 3, 1, false, "", "", 8⟩, ⟨"Bond", 3, 2, false, "", "", 16⟩, ⟨"Side", 3, 3, false, "", "", 24⟩, ⟨"Qty", 2, 4, false, "", "", 32⟩, ⟨"Dealers", 73, 5, false, "", "", 40⟩, ⟨"Ends", 2, 6, false, "", "", 48⟩, ⟨"Until", 2, 7, false, "", "", 56⟩, ⟨"State", 3, 8, false, "", "", 64⟩, ⟨"Hit", 2, 9, false, "", "", 72⟩], 10, 80, .agg #[.int .i64 0, .int .i64 0, .int .i64 0, .int .i64 0, .int .i64 0, .int .u64 0, .int .i64 0, .int .i64 0, .int .i64 0, .int .i64 0]⟩
def ti87 : TI := ⟨.struct #[⟨"ID", 2, 0, false, "", "", 0⟩, ⟨"Client", 3, 1, false, "", "", 8⟩, ⟨"Bond", 3, 2, false, "", "", 16⟩, ⟨"Side", 3, 3, false, "", "", 24⟩, ⟨"Qty", 2, 4, false, "", "", 32⟩, ⟨"Dealers", 73, 5, false, "", "", 40⟩, ⟨"Ends", 2, 6, false, "", "", 48⟩, ⟨"Until", 2, 7, false, "", "", 56⟩, ⟨"State", 3, 8, false, "", "", 64⟩, ⟨"Hit", 2, 9, false, "", "", 72⟩], 10, 80, .agg #[.int .i64 0, .int .i64 0, .int .i64 0, .int .i64 0, .int .i64 0, .int .u64 0, .int .i64 0, .int .i64 0, .int .i64 0, .int .i64 0]⟩
def ti92 :TI:=⟨.slice 5,1,24,.slice none 0 0⟩
def ti94 : TI := ⟨.struct #[⟨"Tick", 2, 0, false, "", "", 0⟩, ⟨"Lot", 2, 1, false, "", "", 8⟩, ⟨"Min", 2, 2, false, "", "", 16⟩, ⟨"Max", 2, 3, false, "", "", 24⟩, ⟨"Low", 2, 4, false, "", "", 32⟩, ⟨"High", 2, 5, false, "", "", 40⟩, ⟨"Halted", 4, 6, false, "", "", 48⟩], 7, 56, .agg #[.int .i64 0, .int .i64 0, .int .i64 0, .int .i64 0, .int .i64 0, .int .i64 0, .bool false]⟩
def ti95 : TI := ⟨.struct #[⟨"Tick", 2, 0, false, "", "", 0⟩, ⟨"Lot", 2, 1, false, "", "", 8⟩, ⟨"Min", 2, 2, false, "", "", 16⟩, ⟨"Max", 2, 3, false, "", "", 24⟩, ⟨"Low", 2, 4, false, "", "", 32⟩, ⟨"High", 2, 5, false, "", "", 40⟩, ⟨"Halted", 4, 6, false, "", "", 48⟩], 7, 56, .agg #[.int .i64 0, .int .i64 0, .int .i64 0, .int .i64 0, .int .i64 0, .int .i64 0, .bool false]⟩
def ti96 : TI := ⟨.struct #[⟨"Role", 3, 0, false, "", "", 0⟩, ⟨"Asks", 73, 1, false, "", "", 8⟩, ⟨"Cap", 2, 2, false, "", "", 16⟩], 3, 24, .agg #[.int .i64 0, .int .u64 0, .int .i64 0]⟩
def ti97 : TI := ⟨.struct #[⟨"Role", 3, 0, false, "", "", 0⟩, ⟨"Asks", 73, 1, false, "", "", 8⟩, ⟨"Cap", 2, 2, false, "", "", 16⟩], 3, 24, .agg #[.int .i64 0, .int .u64 0, .int .i64 0]⟩
def ti98 :TI:=⟨.pointer 139,1,8,.pointer none⟩
def ti102 :TI:=⟨.pointer 142,1,8,.pointer none⟩
def ti104 :TI:=⟨.pointer 144,1,8,.pointer none⟩
def ti106 :TI:=⟨.pointer 147,1,8,.pointer none⟩
def ti108 :TI:=⟨.pointer 149,1,8,.pointer none⟩
def ti110 :TI:=⟨.slice 113,1,24,.slice none 0 0⟩
def ti111 : TI := ⟨.struct #[⟨"rules", 53, 0, false, "", "consols/desk", 0⟩, ⟨"now", 2, 4, false, "", "consols/desk", 64⟩, ⟨"books", 110, 5, false, "", "consols/desk", 72⟩, ⟨"firm", 98, 6, false, "", "consols/desk", 96⟩, ⟨"quotes", 102, 7, false, "", "consols/desk", 104⟩, ⟨"asks", 104, 8, false, "", "consols/desk", 112⟩, ⟨"due", 106, 9, false, "", "consols/desk", 120⟩, ⟨"pos", 23, 10, false, "", "consols/desk", 128⟩, ⟨"blot", 108, 11, false, "", "consols/desk", 136⟩, ⟨"order", 2, 12, false, "", "consols/desk", 144⟩, ⟨"seq", 2, 13, false, "", "consols/desk", 152⟩, ⟨"quote", 2, 14, false, "", "consols/desk", 160⟩, ⟨"ask", 2, 15, false, "", "consols/desk", 168⟩], 16, 176, .agg #[.slice none 0 0, .slice none 0 0, .int .i64 0, .int .i64 0, .int .i64 0, .slice none 0 0, .pointer none, .pointer none, .pointer none, .pointer none, .pointer none, .pointer none, .int .i64 0, .int .i64 0, .int .i64 0, .int .i64 0]⟩
def ti112 : TI := ⟨.struct #[⟨"rules", 53, 0, false, "", "consols/desk", 0⟩, ⟨"now", 2, 4, false, "", "consols/desk", 64⟩, ⟨"books", 110, 5, false, "", "consols/desk", 72⟩, ⟨"firm", 98, 6, false, "", "consols/desk", 96⟩, ⟨"quotes", 102, 7, false, "", "consols/desk", 104⟩, ⟨"asks", 104, 8, false, "", "consols/desk", 112⟩, ⟨"due", 106, 9, false, "", "consols/desk", 120⟩, ⟨"pos", 23, 10, false, "", "consols/desk", 128⟩, ⟨"blot", 108, 11, false, "", "consols/desk", 136⟩, ⟨"order", 2, 12, false, "", "consols/desk", 144⟩, ⟨"seq", 2, 13, false, "", "consols/desk", 152⟩, ⟨"quote", 2, 14, false, "", "consols/desk", 160⟩, ⟨"ask", 2, 15, false, "", "consols/desk", 168⟩], 16, 176, .agg #[.slice none 0 0, .slice none 0 0, .int .i64 0, .int .i64 0, .int .i64 0, .slice none 0 0, .pointer none, .pointer none, .pointer none, .pointer none, .pointer none, .pointer none, .int .i64 0, .int .i64 0, .int .i64 0, .int .i64 0]⟩
def ti113 :TI:=⟨.pointer 152,1,8,.pointer none⟩
def ti123 :TI:=⟨.map 2 4,1,8,.map none⟩
def ti130 :TI:=⟨.int .u64,1,8,.int .u64 0⟩
def ti131 :TI:=⟨.slice 134,1,24,.slice none 0 0⟩
def ti133 : TI := ⟨.struct #[⟨"Price", 2, 0, false, "", "", 0⟩, ⟨"Qty", 2, 1, false, "", "", 8⟩], 2, 16, .agg #[.int .i64 0, .int .i64 0]⟩
def ti134 : TI := ⟨.struct #[⟨"Price", 2, 0, false, "", "", 0⟩, ⟨"Qty", 2, 1, false, "", "", 8⟩], 2, 16, .agg #[.int .i64 0, .int .i64 0]⟩
def ti138 : TI := ⟨.struct #[⟨"l", 51, 0, false, "", "consols/firm", 0⟩, ⟨"used", 66, 1, false, "", "consols/firm", 24⟩], 2, 48, .agg #[.slice none 0 0, .slice none 0 0]⟩
def ti139 : TI := ⟨.struct #[⟨"l", 51, 0, false, "", "consols/firm", 0⟩, ⟨"used", 66, 1, false, "", "consols/firm", 24⟩], 2, 48, .agg #[.slice none 0 0, .slice none 0 0]⟩
def ti140 :TI:=⟨.slice 174,1,24,.slice none 0 0⟩
def ti141 : TI := ⟨.struct #[⟨"l", 140, 0, false, "", "consols/quote", 0⟩], 1, 24, .agg #[.slice none 0 0]⟩
def ti142 : TI := ⟨.struct #[⟨"l", 140, 0, false, "", "consols/quote", 0⟩], 1, 24, .agg #[.slice none 0 0]⟩
def ti143 : TI := ⟨.struct #[⟨"l", 62, 0, false, "", "consols/ask", 0⟩], 1, 24, .agg #[.slice none 0 0]⟩
def ti144 : TI := ⟨.struct #[⟨"l", 62, 0, false, "", "consols/ask", 0⟩], 1, 24, .agg #[.slice none 0 0]⟩
def ti145 :TI:=⟨.slice 160,1,24,.slice none 0 0⟩
def ti146 : TI := ⟨.struct #[⟨"l", 145, 0, false, "", "consols/due", 0⟩], 1, 24, .agg #[.slice none 0 0]⟩
def ti147 : TI := ⟨.struct #[⟨"l", 145, 0, false, "", "consols/due", 0⟩], 1, 24, .agg #[.slice none 0 0]⟩
def ti148 : TI := ⟨.struct #[⟨"l", 22, 0, false, "", "consols/blot", 0⟩, ⟨"head", 73, 1, false, "", "consols/blot", 24⟩], 2, 32, .agg #[.slice none 0 0, .int .u64 0]⟩
def ti149 : TI := ⟨.struct #[⟨"l", 22, 0, false, "", "consols/blot", 0⟩, ⟨"head", 73, 1, false, "", "consols/blot", 24⟩], 2, 32, .agg #[.slice none 0 0, .int .u64 0]⟩
def ti150 :TI:=⟨.slice 168,1,24,.slice none 0 0⟩
def ti151 : TI := ⟨.struct #[⟨"l", 150, 0, false, "", "consols/book", 0⟩], 1, 24, .agg #[.slice none 0 0]⟩
def ti152 : TI := ⟨.struct #[⟨"l", 150, 0, false, "", "consols/book", 0⟩], 1, 24, .agg #[.slice none 0 0]⟩
def ti153 :TI:=⟨.pointer 155,1,8,.pointer none⟩
def ti154 : TI := ⟨.struct #[⟨"who", 3, 0, false, "", "consols/desk", 0⟩, ⟨"id", 2, 1, false, "", "consols/desk", 8⟩, ⟨"l", 37, 2, false, "", "consols/desk", 16⟩], 3, 40, .agg #[.int .i64 0, .int .i64 0, .slice none 0 0]⟩
def ti155 : TI := ⟨.struct #[⟨"who", 3, 0, false, "", "consols/desk", 0⟩, ⟨"id", 2, 1, false, "", "consols/desk", 8⟩, ⟨"l", 37, 2, false, "", "consols/desk", 16⟩], 3, 40, .agg #[.int .i64 0, .int .i64 0, .slice none 0 0]⟩
def ti159 : TI := ⟨.struct #[⟨"Tick", 2, 0, false, "", "", 0⟩, ⟨"Kind", 3, 1, false, "", "", 8⟩, ⟨"ID", 2, 2, false, "", "", 16⟩], 3, 24, .agg #[.int .i64 0, .int .i64 0, .int .i64 0]⟩
def ti160 : TI := ⟨.struct #[⟨"Tick", 2, 0, false, "", "", 0⟩, ⟨"Kind", 3, 1, false, "", "", 8⟩, ⟨"ID", 2, 2, false, "", "", 16⟩], 3, 24, .agg #[.int .i64 0, .int .i64 0, .int .i64 0]⟩
def ti165 :TI:=⟨.slice 3,1,24,.slice none 0 0⟩
def ti167 : TI := ⟨.struct #[⟨"ID", 2, 0, false, "", "", 0⟩, ⟨"Seq", 2, 1, false, "", "", 8⟩, ⟨"Owner", 3, 2, false, "", "", 16⟩, ⟨"Side", 3, 3, false, "", "", 24⟩, ⟨"Price", 2, 4, false, "", "", 32⟩, ⟨"Left", 2, 5, false, "", "", 40⟩], 6, 48, .agg #[.int .i64 0, .int .i64 0, .int .i64 0, .int .i64 0, .int .i64 0, .int .i64 0]⟩
def ti168 : TI := ⟨.struct #[⟨"ID", 2, 0, false, "", "", 0⟩, ⟨"Seq", 2, 1, false, "", "", 8⟩, ⟨"Owner", 3, 2, false, "", "", 16⟩, ⟨"Side", 3, 3, false, "", "", 24⟩, ⟨"Price", 2, 4, false, "", "", 32⟩, ⟨"Left", 2, 5, false, "", "", 40⟩], 6, 48, .agg #[.int .i64 0, .int .i64 0, .int .i64 0, .int .i64 0, .int .i64 0, .int .i64 0]⟩
def ti173 : TI := ⟨.struct #[⟨"ID", 2, 0, false, "", "", 0⟩, ⟨"Ask", 2, 1, false, "", "", 8⟩, ⟨"Dealer", 3, 2, false, "", "", 16⟩, ⟨"Price", 2, 3, false, "", "", 24⟩, ⟨"Expires", 2, 4, false, "", "", 32⟩, ⟨"Live", 4, 5, false, "", "", 40⟩], 6, 48, .agg #[.int .i64 0, .int .i64 0, .int .i64 0, .int .i64 0, .int .i64 0, .bool false]⟩
def ti174 : TI := ⟨.struct #[⟨"ID", 2, 0, false, "", "", 0⟩, ⟨"Ask", 2, 1, false, "", "", 8⟩, ⟨"Dealer", 3, 2, false, "", "", 16⟩, ⟨"Price", 2, 3, false, "", "", 24⟩, ⟨"Expires", 2, 4, false, "", "", 32⟩, ⟨"Live", 4, 5, false, "", "", 40⟩], 6, 48, .agg #[.int .i64 0, .int .i64 0, .int .i64 0, .int .i64 0, .int .i64 0, .bool false]⟩
def ti233 :TI:=⟨.pointer 87,1,8,.pointer none⟩
def ti247 :TI:=⟨.pointer 174,1,8,.pointer none⟩
def ti261 :TI:=⟨.int .i64,1,8,.int .i64 0⟩
def ti268 :TI:=⟨.int .u32,1,4,.int .u32 0⟩
def ti270 :TI:=⟨.slice 277,1,24,.slice none 0 0⟩
def ti271 :TI:=⟨.slice 275,1,24,.slice none 0 0⟩
def ti274 : TI := ⟨.struct #[⟨"ID", 2, 0, false, "", "", 0⟩, ⟨"Owner", 3, 1, false, "", "", 8⟩, ⟨"Left", 2, 2, false, "", "", 16⟩], 3, 24, .agg #[.int .i64 0, .int .i64 0, .int .i64 0]⟩
def ti275 : TI := ⟨.struct #[⟨"ID", 2, 0, false, "", "", 0⟩, ⟨"Owner", 3, 1, false, "", "", 8⟩, ⟨"Left", 2, 2, false, "", "", 16⟩], 3, 24, .agg #[.int .i64 0, .int .i64 0, .int .i64 0]⟩
def ti276 : TI := ⟨.struct #[⟨"Maker", 2, 0, false, "", "", 0⟩, ⟨"Taker", 2, 1, false, "", "", 8⟩, ⟨"MakerParty", 3, 2, false, "", "", 16⟩, ⟨"TakerParty", 3, 3, false, "", "", 24⟩, ⟨"Price", 2, 4, false, "", "", 32⟩, ⟨"Qty", 2, 5, false, "", "", 40⟩, ⟨"Left", 2, 6, false, "", "", 48⟩], 7, 56, .agg #[.int .i64 0, .int .i64 0, .int .i64 0, .int .i64 0, .int .i64 0, .int .i64 0, .int .i64 0]⟩
def ti277 : TI := ⟨.struct #[⟨"Maker", 2, 0, false, "", "", 0⟩, ⟨"Taker", 2, 1, false, "", "", 8⟩, ⟨"MakerParty", 3, 2, false, "", "", 16⟩, ⟨"TakerParty", 3, 3, false, "", "", 24⟩, ⟨"Price", 2, 4, false, "", "", 32⟩, ⟨"Qty", 2, 5, false, "", "", 40⟩, ⟨"Left", 2, 6, false, "", "", 48⟩], 7, 56, .agg #[.int .i64 0, .int .i64 0, .int .i64 0, .int .i64 0, .int .i64 0, .int .i64 0, .int .i64 0]⟩
def ti289 :TI:=⟨.int .u64,1,8,.int .u64 0⟩
def ti292 :TI:=⟨.pointer 3,1,8,.pointer none⟩
def ti297 :TI:=⟨.pointer 168,1,8,.pointer none⟩
def ti301 :TI:=⟨.pointer 289,1,8,.pointer none⟩
def ti314 : TI := ⟨.struct #[⟨"_interface", 17, 0, false, "", "runtime", 0⟩, ⟨"concrete", 17, 1, false, "", "runtime", 8⟩, ⟨"asserted", 17, 2, false, "", "runtime", 16⟩, ⟨"missingMethod", 9, 3, false, "", "runtime", 24⟩], 4, 40, .agg #[.pointer none, .pointer none, .pointer none, .string ⟨#[]⟩]⟩
def ti315 : TI := ⟨.struct #[⟨"_interface", 17, 0, false, "", "runtime", 0⟩, ⟨"concrete", 17, 1, false, "", "runtime", 8⟩, ⟨"asserted", 17, 2, false, "", "runtime", 16⟩, ⟨"missingMethod", 9, 3, false, "", "runtime", 24⟩], 4, 40, .agg #[.pointer none, .pointer none, .pointer none, .string ⟨#[]⟩]⟩
def ti319 :TI:=⟨.int .u8,1,1,.int .u8 0⟩
def ti320 :TI:=⟨.int .u8,1,1,.int .u8 0⟩
def ti322 :TI:=⟨.pointer 5,1,8,.pointer none⟩
def ti323 :TI:=⟨.int .i32,1,4,.int .i32 0⟩
def ti324 :TI:=⟨.int .i32,1,4,.int .i32 0⟩
def ti325 : TI := ⟨.struct #[⟨"Size_", 12, 0, false, "", "", 0⟩, ⟨"PtrBytes", 12, 1, false, "", "", 8⟩, ⟨"Hash", 268, 2, false, "", "", 16⟩, ⟨"TFlag", 319, 3, false, "", "", 20⟩, ⟨"Align_", 5, 4, false, "", "", 21⟩, ⟨"FieldAlign_", 5, 5, false, "", "", 22⟩, ⟨"Kind_", 320, 6, false, "", "", 23⟩, ⟨"Equal", 321, 7, false, "", "", 24⟩, ⟨"GCData", 322, 8, false, "", "", 32⟩, ⟨"Str", 323, 9, false, "", "", 40⟩, ⟨"PtrToThis", 324, 10, false, "", "", 44⟩], 11, 48, .agg #[.int .u64 0, .int .u64 0, .int .u32 0, .int .u8 0, .int .u8 0, .int .u8 0, .int .u8 0, .nilFunc, .pointer none, .int .i32 0, .int .i32 0]⟩
def ti326 : TI := ⟨.struct #[⟨"Size_", 12, 0, false, "", "", 0⟩, ⟨"PtrBytes", 12, 1, false, "", "", 8⟩, ⟨"Hash", 268, 2, false, "", "", 16⟩, ⟨"TFlag", 319, 3, false, "", "", 20⟩, ⟨"Align_", 5, 4, false, "", "", 21⟩, ⟨"FieldAlign_", 5, 5, false, "", "", 22⟩, ⟨"Kind_", 320, 6, false, "", "", 23⟩, ⟨"Equal", 321, 7, false, "", "", 24⟩, ⟨"GCData", 322, 8, false, "", "", 32⟩, ⟨"Str", 323, 9, false, "", "", 40⟩, ⟨"PtrToThis", 324, 10, false, "", "", 44⟩], 11, 48, .agg #[.int .u64 0, .int .u64 0, .int .u32 0, .int .u8 0, .int .u8 0, .int .u8 0, .int .u8 0, .nilFunc, .pointer none, .int .i32 0, .int .i32 0]⟩
def TT :Tab:=[(2,ti2),(3,ti3),(4,ti4),(5,ti5),(6,ti6),(7,ti7),(8,ti8),(9,ti9),(10,ti10),(11,ti11),(12,ti12),(13,ti13),(14,ti14),(15,ti15),(16,ti16),(17,ti17),(18,ti18),(19,ti19),(21,ti21),(22,ti22),(23,ti23),(25,ti25),(27,ti27),(29,ti29),(30,ti30),(36,ti36),(37,ti37),(39,ti39),(40,ti40),(41,ti41),(42,ti42),(43,ti43),(44,ti44),(46,ti46),(49,ti49),(50,ti50),(51,ti51),(52,ti52),(53,ti53),(55,ti55),(58,ti58),(59,ti59),(62,ti62),(66,ti66),(67,ti67),(68,ti68),(69,ti69),(70,ti70),(71,ti71),(73,ti73),(74,ti74),(75,ti75),(86,ti86),(87,ti87),(92,ti92),(94,ti94),(95,ti95),(96,ti96),(97,ti97),(98,ti98),(102,ti102),(104,ti104),(106,ti106),(108,ti108),(110,ti110),(111,ti111),(112,ti112),(113,ti113),(123,ti123),(130,ti130),(131,ti131),(133,ti133),(134,ti134),(138,ti138),(139,ti139),(140,ti140),(141,ti141),(142,ti142),(143,ti143),(144,ti144),(145,ti145),(146,ti146),(147,ti147),(148,ti148),(149,ti149),(150,ti150),(151,ti151),(152,ti152),(153,ti153),(154,ti154),(155,ti155),(159,ti159),(160,ti160),(165,ti165),(167,ti167),(168,ti168),(173,ti173),(174,ti174),(233,ti233),(247,ti247),(261,ti261),(268,ti268),(270,ti270),(271,ti271),(274,ti274),(275,ti275),(276,ti276),(277,ti277),(289,ti289),(292,ti292),(297,ti297),(301,ti301),(314,ti314),(315,ti315),(319,ti319),(320,ti320),(322,ti322),(323,ti323),(324,ti324),(325,ti325),(326,ti326)]
theorem tg2 :zaR Tryz.prog 2 ti2:=zaW Tryz.underlying2 (by kernel_rfl)
theorem tg3 :zaR Tryz.prog 3 ti3:=zaW Tryz.underlying3 (by kernel_rfl)
theorem tg4 :zaR Tryz.prog 4 ti4:=zaW Tryz.underlying4 (by kernel_rfl)
theorem tg5 :zaR Tryz.prog 5 ti5:=zaW Tryz.underlying5 (by kernel_rfl)
theorem tg6 :zaR Tryz.prog 6 ti6:=zaW Tryz.underlying6 (by kernel_rfl)
theorem tg7 :zaR Tryz.prog 7 ti7:=zaW Tryz.underlying7 (by kernel_rfl)
theorem tg8 :zaR Tryz.prog 8 ti8:=zaW Tryz.underlying8 (by kernel_rfl)
theorem tg9 :zaR Tryz.prog 9 ti9:=zaW Tryz.underlying9 (by kernel_rfl)
theorem tg10 :zaR Tryz.prog 10 ti10:=zaW Tryz.underlying10 (by kernel_rfl)
theorem tg11 :zaR Tryz.prog 11 ti11:=zaW Tryz.underlying11 (by kernel_rfl)
theorem tg12 :zaR Tryz.prog 12 ti12:=zaW Tryz.underlying12 (by kernel_rfl)
theorem tg13 :zaR Tryz.prog 13 ti13:=zaW Tryz.underlying13 (by kernel_rfl)
theorem tg14 :zaR Tryz.prog 14 ti14:=zaW Tryz.underlying14 (by kernel_rfl)
theorem tg15 :zaR Tryz.prog 15 ti15:=zaW Tryz.underlying15 (by kernel_rfl)
theorem tg16 :zaR Tryz.prog 16 ti16:=zaW Tryz.underlying16 (by kernel_rfl)
theorem tg17 :zaR Tryz.prog 17 ti17:=zaW Tryz.underlying17 (by kernel_rfl)
theorem tg18 :zaR Tryz.prog 18 ti18:=zaW Tryz.underlying18 (by kernel_rfl)
theorem tg19 :zaR Tryz.prog 19 ti19:=zaW Tryz.underlying19 (by kernel_rfl)
theorem tg21 :zaR Tryz.prog 21 ti21:=zaW Tryz.underlying21 (by kernel_rfl)
theorem tg22 :zaR Tryz.prog 22 ti22:=zaW Tryz.underlying22 (by kernel_rfl)
theorem tg23 :zaR Tryz.prog 23 ti23:=zaW Tryz.underlying23 (by kernel_rfl)
theorem tg25 :zaR Tryz.prog 25 ti25:=zaW Tryz.underlying25 (by kernel_rfl)
theorem tg27 :zaR Tryz.prog 27 ti27:=zaW Tryz.underlying27 (by kernel_rfl)
theorem tg29 :zaR Tryz.prog 29 ti29:=zaW Tryz.underlying29 (by kernel_rfl)
theorem tg30 :zaR Tryz.prog 30 ti30:=zaW Tryz.underlying30 (by kernel_rfl)
theorem tg36 :zaR Tryz.prog 36 ti36:=zaW Tryz.underlying36 (by kernel_rfl)
theorem tg37 :zaR Tryz.prog 37 ti37:=zaW Tryz.underlying37 (by kernel_rfl)
theorem tg39 :zaR Tryz.prog 39 ti39:=zaW Tryz.underlying39 (by kernel_rfl)
theorem tg40 :zaR Tryz.prog 40 ti40:=zaW Tryz.underlying40 (by kernel_rfl)
theorem tg41 :zaR Tryz.prog 41 ti41:=zaW Tryz.underlying41 (by kernel_rfl)
theorem tg42 :zaR Tryz.prog 42 ti42:=zaW Tryz.underlying42 (by kernel_rfl)
theorem tg43 :zaR Tryz.prog 43 ti43:=zaW Tryz.underlying43 (by kernel_rfl)
theorem tg44 :zaR Tryz.prog 44 ti44:=zaW Tryz.underlying44 (by kernel_rfl)
theorem tg46 :zaR Tryz.prog 46 ti46:=zaW Tryz.underlying46 (by kernel_rfl)
theorem tg49 :zaR Tryz.prog 49 ti49:=zaW Tryz.underlying49 (by kernel_rfl)
theorem tg50 :zaR Tryz.prog 50 ti50:=zaW Tryz.underlying50 (by kernel_rfl)
theorem tg51 :zaR Tryz.prog 51 ti51:=zaW Tryz.underlying51 (by kernel_rfl)
theorem tg52 :zaR Tryz.prog 52 ti52:=zaW Tryz.underlying52 (by kernel_rfl)
theorem tg53 :zaR Tryz.prog 53 ti53:=zaW Tryz.underlying53 (by kernel_rfl)
theorem tg55 :zaR Tryz.prog 55 ti55:=zaW Tryz.underlying55 (by kernel_rfl)
theorem tg58 :zaR Tryz.prog 58 ti58:=zaW Tryz.underlying58 (by kernel_rfl)
theorem tg59 :zaR Tryz.prog 59 ti59:=zaW Tryz.underlying59 (by kernel_rfl)
theorem tg62 :zaR Tryz.prog 62 ti62:=zaW Tryz.underlying62 (by kernel_rfl)
theorem tg66 :zaR Tryz.prog 66 ti66:=zaW Tryz.underlying66 (by kernel_rfl)
theorem tg67 :zaR Tryz.prog 67 ti67:=zaW Tryz.underlying67 (by kernel_rfl)
theorem tg68 :zaR Tryz.prog 68 ti68:=zaW Tryz.underlying68 (by kernel_rfl)
theorem tg69 :zaR Tryz.prog 69 ti69:=zaW Tryz.underlying69 (by kernel_rfl)
theorem tg70 :zaR Tryz.prog 70 ti70:=zaW Tryz.underlying70 (by kernel_rfl)
theorem tg71 :zaR Tryz.prog 71 ti71:=zaW Tryz.underlying71 (by kernel_rfl)
theorem tg73 :zaR Tryz.prog 73 ti73:=zaW Tryz.underlying73 (by kernel_rfl)
theorem tg74 :zaR Tryz.prog 74 ti74:=zaW Tryz.underlying74 (by kernel_rfl)
theorem tg75 :zaR Tryz.prog 75 ti75:=zaW Tryz.underlying75 (by kernel_rfl)
theorem tg86 :zaR Tryz.prog 86 ti86:=zaW Tryz.underlying86 (by kernel_rfl)
theorem tg87 :zaR Tryz.prog 87 ti87:=zaW Tryz.underlying87 (by kernel_rfl)
theorem tg92 :zaR Tryz.prog 92 ti92:=zaW Tryz.underlying92 (by kernel_rfl)
theorem tg94 :zaR Tryz.prog 94 ti94:=zaW Tryz.underlying94 (by kernel_rfl)
theorem tg95 :zaR Tryz.prog 95 ti95:=zaW Tryz.underlying95 (by kernel_rfl)
theorem tg96 :zaR Tryz.prog 96 ti96:=zaW Tryz.underlying96 (by kernel_rfl)
theorem tg97 :zaR Tryz.prog 97 ti97:=zaW Tryz.underlying97 (by kernel_rfl)
theorem tg98 :zaR Tryz.prog 98 ti98:=zaW Tryz.underlying98 (by kernel_rfl)
theorem zrU :zaR Tryz.prog 102 ti102:=zaW Tryz.underlying102 (by kernel_rfl)
theorem zrV :zaR Tryz.prog 104 ti104:=zaW Tryz.underlying104 (by kernel_rfl)
theorem zrW :zaR Tryz.prog 106 ti106:=zaW Tryz.underlying106 (by kernel_rfl)
theorem zrX :zaR Tryz.prog 108 ti108:=zaW Tryz.underlying108 (by kernel_rfl)
theorem zrY :zaR Tryz.prog 110 ti110:=zaW Tryz.underlying110 (by kernel_rfl)
theorem zrZ :zaR Tryz.prog 111 ti111:=zaW Tryz.underlying111 (by kernel_rfl)
theorem zr0 :zaR Tryz.prog 112 ti112:=zaW Tryz.underlying112 (by kernel_rfl)
theorem zr1 :zaR Tryz.prog 113 ti113:=zaW Tryz.underlying113 (by kernel_rfl)
theorem zr2 :zaR Tryz.prog 123 ti123:=zaW Tryz.underlying123 (by kernel_rfl)
theorem zr3 :zaR Tryz.prog 130 ti130:=zaW Tryz.underlying130 (by kernel_rfl)
theorem zr4 :zaR Tryz.prog 131 ti131:=zaW Tryz.underlying131 (by kernel_rfl)
theorem zr5 :zaR Tryz.prog 133 ti133:=zaW Tryz.underlying133 (by kernel_rfl)
theorem zr6 :zaR Tryz.prog 134 ti134:=zaW Tryz.underlying134 (by kernel_rfl)
theorem zr7 :zaR Tryz.prog 138 ti138:=zaW Tryz.underlying138 (by kernel_rfl)
theorem zr8 :zaR Tryz.prog 139 ti139:=zaW Tryz.underlying139 (by kernel_rfl)
theorem zr9 :zaR Tryz.prog 140 ti140:=zaW Tryz.underlying140 (by kernel_rfl)
theorem zsa :zaR Tryz.prog 141 ti141:=zaW Tryz.underlying141 (by kernel_rfl)
theorem zsb :zaR Tryz.prog 142 ti142:=zaW Tryz.underlying142 (by kernel_rfl)
theorem zsc :zaR Tryz.prog 143 ti143:=zaW Tryz.underlying143 (by kernel_rfl)
theorem zsd :zaR Tryz.prog 144 ti144:=zaW Tryz.underlying144 (by kernel_rfl)
theorem zse :zaR Tryz.prog 145 ti145:=zaW Tryz.underlying145 (by kernel_rfl)
theorem zsf :zaR Tryz.prog 146 ti146:=zaW Tryz.underlying146 (by kernel_rfl)
theorem zsg :zaR Tryz.prog 147 ti147:=zaW Tryz.underlying147 (by kernel_rfl)
theorem zsh :zaR Tryz.prog 148 ti148:=zaW Tryz.underlying148 (by kernel_rfl)
theorem zsi :zaR Tryz.prog 149 ti149:=zaW Tryz.underlying149 (by kernel_rfl)
theorem zsj :zaR Tryz.prog 150 ti150:=zaW Tryz.underlying150 (by kernel_rfl)
theorem zsk :zaR Tryz.prog 151 ti151:=zaW Tryz.underlying151 (by kernel_rfl)
theorem zsl :zaR Tryz.prog 152 ti152:=zaW Tryz.underlying152 (by kernel_rfl)
theorem zsm :zaR Tryz.prog 153 ti153:=zaW Tryz.underlying153 (by kernel_rfl)
theorem zsn :zaR Tryz.prog 154 ti154:=zaW Tryz.underlying154 (by kernel_rfl)
theorem zso :zaR Tryz.prog 155 ti155:=zaW Tryz.underlying155 (by kernel_rfl)
theorem zsp :zaR Tryz.prog 159 ti159:=zaW Tryz.underlying159 (by kernel_rfl)
theorem zsq :zaR Tryz.prog 160 ti160:=zaW Tryz.underlying160 (by kernel_rfl)
theorem zsr :zaR Tryz.prog 165 ti165:=zaW Tryz.underlying165 (by kernel_rfl)
theorem zss :zaR Tryz.prog 167 ti167:=zaW Tryz.underlying167 (by kernel_rfl)
theorem zst :zaR Tryz.prog 168 ti168:=zaW Tryz.underlying168 (by kernel_rfl)
theorem zsu :zaR Tryz.prog 173 ti173:=zaW Tryz.underlying173 (by kernel_rfl)
theorem zsv :zaR Tryz.prog 174 ti174:=zaW Tryz.underlying174 (by kernel_rfl)
theorem zsw :zaR Tryz.prog 233 ti233:=zaW Tryz.underlying233 (by kernel_rfl)
theorem zsx :zaR Tryz.prog 247 ti247:=zaW Tryz.underlying247 (by kernel_rfl)
theorem zsy :zaR Tryz.prog 261 ti261:=zaW Tryz.underlying261 (by kernel_rfl)
theorem zsz :zaR Tryz.prog 268 ti268:=zaW Tryz.underlying268 (by kernel_rfl)
theorem zsA :zaR Tryz.prog 270 ti270:=zaW Tryz.underlying270 (by kernel_rfl)
theorem zsB :zaR Tryz.prog 271 ti271:=zaW Tryz.underlying271 (by kernel_rfl)
theorem zsC :zaR Tryz.prog 274 ti274:=zaW Tryz.underlying274 (by kernel_rfl)
theorem zsD :zaR Tryz.prog 275 ti275:=zaW Tryz.underlying275 (by kernel_rfl)
theorem zsE :zaR Tryz.prog 276 ti276:=zaW Tryz.underlying276 (by kernel_rfl)
theorem zsF :zaR Tryz.prog 277 ti277:=zaW Tryz.underlying277 (by kernel_rfl)
theorem zsG :zaR Tryz.prog 289 ti289:=zaW Tryz.underlying289 (by kernel_rfl)
theorem zsH :zaR Tryz.prog 292 ti292:=zaW Tryz.underlying292 (by kernel_rfl)
theorem zsI :zaR Tryz.prog 297 ti297:=zaW Tryz.underlying297 (by kernel_rfl)
theorem zsJ :zaR Tryz.prog 301 ti301:=zaW Tryz.underlying301 (by kernel_rfl)
theorem zsK :zaR Tryz.prog 314 ti314:=zaW Tryz.underlying314 (by kernel_rfl)
theorem zsL :zaR Tryz.prog 315 ti315:=zaW Tryz.underlying315 (by kernel_rfl)
theorem zsM :zaR Tryz.prog 319 ti319:=zaW Tryz.underlying319 (by kernel_rfl)
theorem zsN :zaR Tryz.prog 320 ti320:=zaW Tryz.underlying320 (by kernel_rfl)
theorem zsO :zaR Tryz.prog 322 ti322:=zaW Tryz.underlying322 (by kernel_rfl)
theorem zsP :zaR Tryz.prog 323 ti323:=zaW Tryz.underlying323 (by kernel_rfl)
theorem zsQ :zaR Tryz.prog 324 ti324:=zaW Tryz.underlying324 (by kernel_rfl)
theorem zsR :zaR Tryz.prog 325 ti325:=zaW Tryz.underlying325 (by kernel_rfl)
theorem zsS :zaR Tryz.prog 326 ti326:=zaW Tryz.underlying326 (by kernel_rfl)
theorem hT :zbA Tryz.prog TT:=
 zav tg2 <| zav tg3 <| zav tg4 <| zav tg5 <| zav tg6 <| zav tg7 <| zav tg8 <| zav tg9 <| zav tg10 <| zav tg11 <| zav tg12 <| zav tg13 <| zav tg14 <| zav tg15 <| zav tg16 <| zav tg17 <| zav tg18 <| zav tg19 <| zav tg21 <| zav tg22 <| zav tg23 <| zav tg25 <| zav tg27 <| zav tg29 <| zav tg30 <| zav tg36 <| zav tg37 <| zav tg39 <| zav tg40 <| zav tg41 <| zav tg42 <| zav tg43 <| zav tg44 <| zav tg46 <| zav tg49 <| zav tg50 <| zav tg51 <| zav tg52 <| zav tg53 <| zav tg55 <| zav tg58 <| zav tg59 <| zav tg62 <| zav tg66 <| zav tg67 <| zav tg68 <| zav tg69 <| zav tg70 <| zav tg71 <| zav tg73 <| zav tg74 <| zav tg75 <| zav tg86 <| zav tg87 <| zav tg92 <| zav tg94 <| zav tg95 <| zav tg96 <| zav tg97 <| zav tg98 <| zav zrU <| zav zrV <| zav zrW <| zav zrX <| zav zrY <| zav zrZ <| zav zr0 <| zav zr1 <| zav zr2 <| zav zr3 <| zav zr4 <| zav zr5 <| zav zr6 <| zav zr7 <| zav zr8 <| zav zr9 <| zav zsa <| zav zsb <| zav zsc <| zav zsd <| zav zse <| zav zsf <| zav zsg <| zav zsh <| zav zsi <| zav zsj <| zav zsk <| zav zsl <| zav zsm <| zav zsn <| zav zso <| zav zsp <| zav zsq <| zav zsr <| zav zss <| zav zst <| zav zsu <| zav zsv <| zav zsw <| zav zsx <| zav zsy <| zav zsz <| zav zsA <| zav zsB <| zav zsC <| zav zsD <| zav zsE <| zav zsF <| zav zsG <| zav zsH <| zav zsI <| zav zsJ <| zav zsK <| zav zsL <| zav zsM <| zav zsN <| zav zsO <| zav zsP <| zav zsQ <| zav zsR <| zav zsS <| zql
theorem hmix :Tryz.prog.follows .mixedOrders=true:=by kernel_rfl
end Go.Proofs.YteocfhdocpeokaaGreat
namespace Go.Proofs.YteocfhdocpeokaaGreat
open Go Go.Sl
attribute [local irreducible] AW ES Ld RetQ
set_option maxRecDepth 100000
def cmpI (x y:Int):Int:=if x<y then -1 else if y<x then 1 else 0
theorem zqy (W:World)(x:Int):zaw Tryz.prog W 193 [.int .i64 x] [] (.bool false):=by
 refine zaw.of (fun h' hs=> ?_)
 refine zaf Tryz.func193 rfl rfl Tryz.results193 Tryz.ntmps193 rfl rfl ?_
 repeat' (first|apply zah|apply zaa|apply zak|apply zag|apply zac hT;iterate 4 exact rfl)
 exact zca (J:=[]) rfl (by simp) (plr _)
theorem zqz (W:World)(x y:Int):zaw Tryz.prog W 161 [.int .i64 x,.int .i64 y] [] (.int .i64 (cmpI x y)):=by
 refine zaw.of (fun h' hs=> ?_)
 refine zaf Tryz.func161 rfl rfl Tryz.results161 Tryz.ntmps161 rfl rfl ?_
 repeat' (first|apply zah|apply zaa|apply zak|apply zam|apply zag|apply zac hT;iterate 4 exact rfl|(apply zab (hs:=((zqy W _).mono (by simp)));iterate 7 exact rfl)|apply zan;iterate 2 exact rfl|(apply zal;exact rfl;all_goals(intro hb;(try dsimp only at hb);(try simp only[hb]);(first|replace hb:=odt hb|replace hb:=odf hb);(try omega))))
 ·exact zca (J:=[]) rfl (by simp[cmpI,hb]) (plr _)
 ·rename_i h1;exact zca (J:=[]) rfl (by simp[cmpI];omega) (plr _)
 ·rename_i h1;exact zca (J:=[]) rfl (by simp[cmpI];omega) (plr _)
theorem zhw (W:World)(h:List zao)(A:Option Addr)(n c:Nat)(l:List zaP)(hn:l.length=n)(hr:zaz W h A n 7 (l.flatMap zaP.enc))(fn:FuncId)(cap:List Value)(p:zaP→Bool)
 (hf:∀x∈l,zaw Tryz.prog W fn ([.agg x.enc.toArray]++cap) h (.bool (p x)))(hb:n≤4611686018427387903):
 zaw Tryz.prog W 132 [.slice A n c,.func (.func fn) #[] cap.toArray] h (.int .i64 (zaT p l)):=by
 refine zaw.of (fun h' hs=> ?_)
 have hr':=hr.mono hs
 refine zaf Tryz.func132 rfl rfl Tryz.results132 Tryz.ntmps132 rfl rfl ?_
 refine zaI hr' rfl (fun hA=> ?_)
 repeat' (first|apply zah|apply zaa|apply zaj|apply zag|apply zac hT;iterate 4 exact rfl)
 refine zbT (α:=Nat) (E:=fun k=>[(0,.slice A n c),(1,.func (.func fn) #[] cap.toArray),(7,.int .i64 n),(8,.int .i64 k)]) (H:=fun _=>h') (μ:=fun k=>n - k)
  (S:=fun k=>k≤n∧∀(j:Nat) y,j<k→l[j]? =some y→p y=false) 0 (J:=[]) ⟨Nat.zero_le _,fun j y hj=>by omega⟩ ⟨rfl,rfl,rfl,rfl,trivial⟩ (plr _) ?_
 rintro k ⟨hk1,hk2⟩
 by_cases hlt:k<n
 ·obtain⟨x,hx⟩:∃x,l[k]? =some x:=⟨l[k]'(by omega),gge (by omega)⟩
  have hx2:l[(k:Int).toNat]? =some x:=by simpa using hx
  have hfx:=(hf x (mog hx)).mono hs
  have hA':=hA (by omega)
  repeat' (first|apply zah|apply zaa|apply zak|apply zam|apply zaj|apply zag|apply zac hT;iterate 4 exact rfl|(apply zaM hT;(iterate 4 exact rfl);(iterate 2 (first|omega)))|apply zaJ hT;(iterate 8 exact rfl);(iterate 2 omega);exact hA'|apply zad;(iterate 5 exact rfl);exact zaO hT rfl rfl hr' zaP.enc_len rfl hx2 rfl|apply zab (hs:=hfx);iterate 7 exact rfl|(apply zal;exact rfl;all_goals(intro hb;(try dsimp only at hb);(try simp only[hb]);(first|replace hb:=odt hb|replace hb:=odf hb|skip);(try omega))))
  ·exact zca (J:=[]) rfl (by rw[zds hx hb hk2]) (plr _)
  ·have hpx:=hb
   refine⟨k+1,[],by dsimp only;omega,⟨by omega,fun j y hj hy=> ?_⟩,⟨rfl,rfl,rfl,rfl,trivial⟩,plr _⟩
   by_cases hjk:j<k
   ·exact hk2 j y hjk hy
   ·obtain rfl:j=k:=by omega
    rw[hx]at hy;cases hy;exact hpx
 ·repeat' (first|apply zah|apply zaa|apply zak|apply zaN|apply zag|apply zac hT;iterate 4 exact rfl|(apply zal;exact rfl;all_goals(intro hb;(try dsimp only at hb);(try simp only[hb]);(first|replace hb:=odt hb|replace hb:=odf hb);(try omega))))
  exact zca (J:=[]) rfl (by rw[zb6 (fun(j:Nat) y hj=>hk2 j y (by have:=(gsi.1 hj).1;omega) hj)]) (plr _)
theorem zfU (W:World)(h:List zao)(A:Option Addr)(n c:Nat)(l:List zaP)(hn:l.length=n)(hr:zaz W h A n 7 (l.flatMap zaP.enc))(fn:FuncId)(cap:List Value)(p:zaP→Bool)
 (hf:∀x∈l,zaw Tryz.prog W fn ([.agg x.enc.toArray]++cap) h (.bool (p x)))(hb:n≤4611686018427387903):
 zaw Tryz.prog W 94 [.slice A n c,.func (.func fn) #[] cap.toArray] h (.bool (decide (zaT p l≥0))):=by
 refine zaw.of (fun h' hs=> ?_)
 refine zaf Tryz.func94 rfl rfl Tryz.results94 Tryz.ntmps94 rfl rfl ?_
 repeat' (first|apply zah|apply zaa|apply zak|apply zag|apply zac hT;iterate 4 exact rfl|apply zab (hs:=((zhw W h A n c l hn hr fn cap p hf hb).mono hs));iterate 7 exact rfl)
 exact zca (J:=[]) rfl rfl (plr _)
theorem zl1 (W:World)(h:List zao)(A:Option Addr)(n c:Nat)(cs:List Value)(hr:zaz W h A n 7 cs)(hb:n*56≤140737488355328):
 zax Tryz.prog W 46 [.slice A n c] h (fun v h'=>∃A' c',v=.slice A' n c'∧h'=.own A' n c' 95 7 cs::h):=by
 refine zax.drop ?_
 refine zaf Tryz.func46 rfl rfl Tryz.results46 Tryz.ntmps46 rfl rfl ?_
 refine zaI hr rfl (fun hA=> ?_)
 cases A with
 |none=>
  have hn:n=0:=by
   rcases Nat.eq_zero_or_pos n with h|h
   ·exact h
   ·have:=hA h;simp at this
  subst hn
  have hcs:cs=[]:=List.eq_nil_of_length_eq_zero (by simpa using hr.len)
  subst hcs
  refine zbI (fun w hw=>⟨_,hw.own_nil 95 7,?_⟩)
  repeat' (first|apply zah|apply zaa|apply zak|apply zag|apply zac hT;iterate 4 exact rfl|apply zas;iterate 2 exact rfl)
  apply ret1;exact rfl
  exact⟨[],_,plr _,none,0,rfl,rfl⟩
 |some ad=>
  repeat' (first|apply zah|apply zaa|apply zak|apply zam|apply zag|apply zac hT;iterate 4 exact rfl|apply zaB hT;(iterate 12 exact rfl);intro g1|apply zbb hT;(iterate 10 exact rfl);exact sel0;exact hr.cons;omega;(show(0+n)*56≤_;omega);intro A' c'|apply zan;iterate 2 exact rfl)
  apply ret1;exact rfl
  refine⟨[],_,plr _,A',c',by rw[Nat.zero_add],?_⟩
  show zao.own A' (0+n) c' 95 7 ([]++cs)::h=_
  simp
theorem zgH (W:World)(h:List zao)(A:Option Addr)(n c:Nat)(l:List zaG)(hn:l.length=n)(hr:zaz W h A n 3 (l.flatMap zaG.enc))(fn:FuncId)(cap:List Value)(p:zaG→Bool)
 (hf:∀x∈l,zaw Tryz.prog W fn ([.agg x.enc.toArray]++cap) h (.bool (p x)))(hb:n≤4611686018427387903):
 zaw Tryz.prog W 133 [.slice A n c,.func (.func fn) #[] cap.toArray] h (.int .i64 (zaT p l)):=by
 refine zaw.of (fun h' hs=> ?_)
 have hr':=hr.mono hs
 refine zaf Tryz.func133 rfl rfl Tryz.results133 Tryz.ntmps133 rfl rfl ?_
 refine zaI hr' rfl (fun hA=> ?_)
 repeat' (first|apply zah|apply zaa|apply zaj|apply zag|apply zac hT;iterate 4 exact rfl)
 refine zbT (α:=Nat) (E:=fun k=>[(0,.slice A n c),(1,.func (.func fn) #[] cap.toArray),(7,.int .i64 n),(8,.int .i64 k)]) (H:=fun _=>h') (μ:=fun k=>n - k)
  (S:=fun k=>k≤n∧∀(j:Nat) y,j<k→l[j]? =some y→p y=false) 0 (J:=[]) ⟨Nat.zero_le _,fun j y hj=>by omega⟩ ⟨rfl,rfl,rfl,rfl,trivial⟩ (plr _) ?_
 rintro k ⟨hk1,hk2⟩
 by_cases hlt:k<n
 ·obtain⟨x,hx⟩:∃x,l[k]? =some x:=⟨l[k]'(by omega),gge (by omega)⟩
  have hx2:l[(k:Int).toNat]? =some x:=by simpa using hx
  have hfx:=(hf x (mog hx)).mono hs
  have hA':=hA (by omega)
  repeat' (first|apply zah|apply zaa|apply zak|apply zam|apply zaj|apply zag|apply zac hT;iterate 4 exact rfl|(apply zaM hT;(iterate 4 exact rfl);(iterate 2 (first|omega)))|apply zaJ hT;(iterate 8 exact rfl);(iterate 2 omega);exact hA'|apply zad;(iterate 5 exact rfl);exact zaO hT rfl rfl hr' zaG.enc_len rfl hx2 rfl|apply zab (hs:=hfx);iterate 7 exact rfl|(apply zal;exact rfl;all_goals(intro hb;(try dsimp only at hb);(try simp only[hb]);(first|replace hb:=odt hb|replace hb:=odf hb|skip);(try omega))))
  ·exact zca (J:=[]) rfl (by rw[zds hx hb hk2]) (plr _)
  ·have hpx:=hb
   refine⟨k+1,[],by dsimp only;omega,⟨by omega,fun j y hj hy=> ?_⟩,⟨rfl,rfl,rfl,rfl,trivial⟩,plr _⟩
   by_cases hjk:j<k
   ·exact hk2 j y hjk hy
   ·obtain rfl:j=k:=by omega
    rw[hx]at hy;cases hy;exact hpx
 ·repeat' (first|apply zah|apply zaa|apply zak|apply zaN|apply zag|apply zac hT;iterate 4 exact rfl|(apply zal;exact rfl;all_goals(intro hb;(try dsimp only at hb);(try simp only[hb]);(first|replace hb:=odt hb|replace hb:=odf hb);(try omega))))
  exact zca (J:=[]) rfl (by rw[zb6 (fun(j:Nat) y hj=>hk2 j y (by have:=(gsi.1 hj).1;omega) hj)]) (plr _)
theorem zfg (W:World)(h:List zao)(A:Option Addr)(n c:Nat)(l:List zaG)(hn:l.length=n)(hr:zaz W h A n 3 (l.flatMap zaG.enc))(fn:FuncId)(cap:List Value)(p:zaG→Bool)
 (hf:∀x∈l,zaw Tryz.prog W fn ([.agg x.enc.toArray]++cap) h (.bool (p x)))(hb:n≤4611686018427387903):
 zaw Tryz.prog W 95 [.slice A n c,.func (.func fn) #[] cap.toArray] h (.bool (decide (zaT p l≥0))):=by
 refine zaw.of (fun h' hs=> ?_)
 refine zaf Tryz.func95 rfl rfl Tryz.results95 Tryz.ntmps95 rfl rfl ?_
 repeat' (first|apply zah|apply zaa|apply zak|apply zag|apply zac hT;iterate 4 exact rfl|apply zab (hs:=((zgH W h A n c l hn hr fn cap p hf hb).mono hs));iterate 7 exact rfl)
 exact zca (J:=[]) rfl rfl (plr _)
theorem zgI (W:World)(h:List zao)(A:Option Addr)(n c:Nat)(cs:List Value)(hr:zaz W h A n 3 cs)(hb:n*24≤140737488355328):
 zax Tryz.prog W 47 [.slice A n c] h (fun v h'=>∃A' c',v=.slice A' n c'∧h'=.own A' n c' 97 3 cs::h):=by
 refine zax.drop ?_
 refine zaf Tryz.func47 rfl rfl Tryz.results47 Tryz.ntmps47 rfl rfl ?_
 refine zaI hr rfl (fun hA=> ?_)
 cases A with
 |none=>
  have hn:n=0:=by
   rcases Nat.eq_zero_or_pos n with h|h
   ·exact h
   ·have:=hA h;simp at this
  subst hn
  have hcs:cs=[]:=List.eq_nil_of_length_eq_zero (by simpa using hr.len)
  subst hcs
  refine zbI (fun w hw=>⟨_,hw.own_nil 97 3,?_⟩)
  repeat' (first|apply zah|apply zaa|apply zak|apply zag|apply zac hT;iterate 4 exact rfl|apply zas;iterate 2 exact rfl)
  apply ret1;exact rfl
  exact⟨[],_,plr _,none,0,rfl,rfl⟩
 |some ad=>
  repeat' (first|apply zah|apply zaa|apply zak|apply zam|apply zag|apply zac hT;iterate 4 exact rfl|apply zaB hT;(iterate 12 exact rfl);intro g1|apply zbb hT;(iterate 10 exact rfl);exact sel0;exact hr.cons;omega;(show(0+n)*24≤_;omega);intro A' c'|apply zan;iterate 2 exact rfl)
  apply ret1;exact rfl
  refine⟨[],_,plr _,A',c',by rw[Nat.zero_add],?_⟩
  show zao.own A' (0+n) c' 97 3 ([]++cs)::h=_
  simp
end Go.Proofs.YteocfhdocpeokaaGreat
namespace Go.Proofs.YteocfhdocpeokaaGreat
open Go Go.Sl
attribute [local irreducible] AW ES EP Ld RetQ
set_option maxRecDepth 100000
theorem zkp (W:World)(n a b:Int):zaw Tryz.prog W 131 [.int .i64 n,.int .i64 a,.int .i64 b] [] (.bool (inB n a b)):=by
 refine zaw.ofD (fun h' hs=> ?_)
 refine zaf Tryz.func131 rfl rfl Tryz.results131 Tryz.ntmps131 rfl rfl ?_
 repeat' (first|apply zah|apply zaa|apply zak|apply zag|apply zac hT;iterate 4 exact rfl|apply zaK;iterate 3 exact rfl|(apply zaH;exact rfl;all_goals(intro hb;(fail_if_success (change true=true at hb));(fail_if_success (change false=false at hb));(try dsimp only at hb);(try simp only[hb]);(first|replace hb:=odt hb|replace hb:=odf hb);(try omega))))
 all_goals(apply ret1;exact rfl;exact⟨by(first|simp_all [inB];done|simp[inB];omega),zaX⟩)
theorem zm5 (W:World)(n a b:Int):zaw Tryz.prog W 88 [.int .i64 n,.int .i64 a,.int .i64 b] [] (.bool (inB n a b)):=by
 refine zaw.ofD (fun h' hs=> ?_)
 refine zaf Tryz.func88 rfl rfl Tryz.results88 Tryz.ntmps88 rfl rfl ?_
 repeat' (first|apply zah|apply zaa|apply zak|apply zag|apply zac hT;iterate 4 exact rfl|apply zaK;iterate 3 exact rfl|(apply zaH;exact rfl;all_goals(intro hb;(fail_if_success (change true=true at hb));(fail_if_success (change false=false at hb));(try dsimp only at hb);(try simp only[hb]);(first|replace hb:=odt hb|replace hb:=odf hb);(try omega))))
 all_goals(apply ret1;exact rfl;exact⟨by(first|simp_all [inB];done|simp[inB];omega),zaX⟩)
theorem zqA (W:World)(b:zaP):zaw Tryz.prog W 90 [.agg b.enc.toArray] [] (.bool (zcU b)):=by
 refine zaw.ofD (fun h' hs=> ?_)
 refine zaf Tryz.func90 rfl rfl Tryz.results90 Tryz.ntmps90 rfl rfl ?_
 repeat' (first|apply zah|apply zaa|apply zak|apply zag|apply zac hT;iterate 4 exact rfl|apply zaK;iterate 3 exact rfl|apply zaC [] [] hmix;decide+kernel|apply zmY;(iterate 5 exact rfl);(have z1:=zck ‹inB b.lot 1 1000000=true›;have z2:=zck ‹inB b.max b.min 1000000=true›;have z3:=zck ‹inB b.min 1 1000000=true›;omega);(have z1:=zck ‹inB b.lot 1 1000000=true›;omega)|(apply zaM hT;(iterate 4 exact rfl);(iterate 2 (have z1:=zck ‹inB b.lot 1 1000000=true›;have z2:=zck ‹inB b.max b.min 1000000=true›;have z3:=zck ‹inB b.min 1 1000000=true›;have z4:=Int.emod_nonneg b.max (show b.lot≠0 by omega);have z5:=Int.emod_lt_of_pos b.max (show 0<b.lot by omega);omega)))|(apply zab (hs:=((zkp W _ _ _).mono (by simp)));iterate 7 exact rfl)|(apply zad;(iterate 5 exact rfl);first|(apply zaq hT;exact rfl;exact rfl;exact mX;exact rfl;exact rfl))|apply zaA;(iterate 5 exact rfl);intro _|(apply zaH;exact rfl;all_goals(intro hb;(fail_if_success (change true=true at hb));(fail_if_success (change false=false at hb));(try dsimp only at hb);(try simp only[hb]);(first|skip);(try omega))))
 all_goals first
  |(apply ret1;exact rfl;exact⟨by simp_all [zcU],za5 zaX⟩)
  |skip
theorem zo2 (W:World)(b:zaP):zaw Tryz.prog W 89 [.agg b.enc.toArray] [] (.bool (!zcU b)):=by
 refine zaw.ofD (fun h' hs=> ?_)
 refine zaf Tryz.func89 rfl rfl Tryz.results89 Tryz.ntmps89 rfl rfl ?_
 repeat' (first|apply zah|apply zaa|apply zak|apply zag|apply zac hT;iterate 4 exact rfl|(apply zab (hs:=((zqA W b).mono (by simp)));iterate 7 exact rfl)|(apply zad;(iterate 5 exact rfl);first|(apply zaF hT;exact rfl;exact rfl;exact mX;exact rfl))|apply zaA;(iterate 5 exact rfl);intro _)
 all_goals(apply ret1;exact rfl;exact⟨rfl,dX⟩)
theorem zji (W:World)(h:List zao)(A:Option Addr)(c:Nat)(l:List zaG)(hr:zaz W h A l.length 3 (l.flatMap zaG.enc))(hb:l.length≤8):
 zaw Tryz.prog W 91 [.slice A l.length c] h (.int .u64 (zdh l l.length)):=by
 refine zaw.ofD (fun h' hs=> ?_)
 have hr':=hr.mono hs
 refine zaf Tryz.func91 rfl rfl Tryz.results91 Tryz.ntmps91 rfl rfl ?_
 refine zaI hr' rfl (fun hA=> ?_)
 repeat' (first|apply zah|apply zaa|apply zaj|apply zag|apply zac hT;iterate 4 exact rfl)
 refine za1 (α:=Nat) (E:=fun k=>[(3,.int .u64 (zdh l k)),(6,.slice A l.length c),(7,.int .i64 l.length),(8,.int .i64 k)]) (H:=fun _=>h') (μ:=fun k=>l.length - k)
  (S:=fun k=>k≤l.length) 0 (Nat.zero_le _) ⟨rfl,rfl,rfl,rfl,trivial⟩ dX ?_
 intro k hk
 by_cases hlt:k<l.length
 ·obtain⟨x,hx⟩:∃x,l[k]? =some x:=⟨l[k]'(by omega),gge (by omega)⟩
  have hx2:l[(k:Int).toNat]? =some x:=by simpa using hx
  have hA':=hA (by omega)
  have hd1:decide ((k:Int)<(l.length:Int))=true:=by simp;omega
  have hst:=zko hx
  have hor:=zrm (zjh l k) (show k<64 by omega)
  repeat' (first|apply zah|apply zaa|apply zam|apply zaj|apply zag|apply zac hT;iterate 4 exact rfl|(apply zaM hT;(iterate 4 exact rfl);(iterate 2 (first|omega)))|apply zaJ hT;(iterate 8 exact rfl);(iterate 2 omega);exact hA'|(apply zad;(iterate 5 exact rfl);exact zaO hT rfl rfl (hr'.mono (by intro c hc;first|exact hc|exact mcm _ hc)) zaG.enc_len rfl hx2 rfl)|(apply zar hT;(iterate 6 exact rfl);exact sX;(iterate 3 exact rfl);exact nle rfl)|apply zqe;(iterate 5 exact rfl);omega|apply zcr;iterate 6 exact rfl|(apply zad;(iterate 5 exact rfl);first|(apply zaq hT;exact rfl;exact rfl;exact mX;exact rfl;exact rfl))|apply zay hT;(iterate 5 exact rfl);intro _|(apply zal;exact rfl;all_goals(intro hb;(try dsimp only at hb);(try simp only[hb]);(first|replace hb:=odt hb|replace hb:=odf hb);(try omega))))
  all_goals first
   |(exfalso;omega)
   |exact zaD (k+1) (by(try dsimp only);omega) (by(try dsimp only);omega) ⟨by(try dsimp only);rw[hst,if_pos ‹_›,←hor];rfl,rfl,rfl,rfl,trivial⟩ dX
   |exact zaD (k+1) (by(try dsimp only);omega) (by(try dsimp only);omega) ⟨by(try dsimp only);rw[hst,if_neg ‹_›];rfl,rfl,rfl,rfl,trivial⟩ dX
   |skip
 ·obtain rfl:k=l.length:=by omega
  have hd1:decide ((l.length:Int)<(l.length:Int))=false:=by simp
  repeat' (first|apply zah|apply zaa|apply zak|apply zaN|apply zag|apply zac hT;iterate 4 exact rfl|(apply zal;exact rfl;all_goals(intro hb;(try dsimp only at hb);(try simp only[hb]);(first|replace hb:=odt hb|replace hb:=odf hb);(try omega))))
  all_goals first
   |(exfalso;omega)
   |(apply ret1;exact rfl;exact⟨rfl,dX⟩)
theorem zjj (W:World)(p:zaG)(all:Int):zaw Tryz.prog W 93 [.agg p.enc.toArray,.int .u64 all] [] (.bool (zeh p all)):=by
 refine zaw.ofD (fun h' hs=> ?_)
 refine zaf Tryz.func93 rfl rfl Tryz.results93 Tryz.ntmps93 rfl rfl ?_
 repeat' (first|apply zah|apply zaa|apply zak|apply zam|apply zaj|apply zag|apply zac hT;iterate 4 exact rfl|apply zaK;iterate 3 exact rfl|apply zcr;iterate 6 exact rfl|(apply zab (hs:=((zm5 W _ _ _).mono (by simp)));iterate 7 exact rfl)|(apply zad;(iterate 5 exact rfl);first|(apply zaq hT;exact rfl;exact rfl;exact mX;exact rfl;exact rfl))|apply zaA;(iterate 5 exact rfl);intro _|(apply zaH;exact rfl;all_goals(intro hb;(fail_if_success (change true=true at hb));(fail_if_success (change false=false at hb));(try dsimp only at hb);(try simp only[hb]);(first|replace hb:=odt hb|replace hb:=odf hb);(try omega)))|(apply zal;exact rfl;all_goals(intro hb;(try dsimp only at hb);(try simp only[hb]);(first|replace hb:=odt hb|replace hb:=odf hb);(try omega))))
 all_goals first
  |(apply ret1;exact rfl;exact⟨by simp_all [zeh],dX⟩)
  |skip
theorem zo3 (W:World)(p:zaG)(all:Int)(g:Nat):zaw Tryz.prog W 92 [.agg p.enc.toArray,.pointer (some ⟨g,0,none⟩)] [.blk g 73 [.int .u64 all]] (.bool (!zeh p all)):=by
 refine zaw.ofD (fun h' hs=> ?_)
 have m0:=hs _ mem0
 refine zaf Tryz.func92 rfl rfl Tryz.results92 Tryz.ntmps92 rfl rfl ?_
 repeat' (first|apply zah|apply zaa|apply zak|apply zag|apply zac hT;iterate 4 exact rfl|(apply zab (hs:=((zjj W p all).mono (by simp)));iterate 7 exact rfl)|(apply zad;(iterate 5 exact rfl);first|(apply zaq hT;exact rfl;exact rfl;(repeat(first|exact m0|apply mcm));exact rfl;exact rfl)|(apply zaF hT;exact rfl;exact rfl;exact mX;exact rfl))|apply zaA;(iterate 5 exact rfl);intro _)
 all_goals(apply ret1;exact rfl;exact⟨rfl,dX⟩)
theorem zm6 {α:Type}{q:α→Bool}{l:List α}:decide (zaT (fun x=> !q x) l≥0)= !(l.all q):=by
 by_cases h:l.all q=true
 ·rw[h]
  have:zaT (fun x=> !q x) l<0:=zbV.2 (fun x hx=>by simp[List.all_eq_true.1 h x hx])
  simp;omega
 ·have:¬zaT (fun x=> !q x) l<0:=fun hn=>h (List.all_eq_true.2 (fun x hx=>by simpa using zbV.1 hn x hx))
  rw[decide_eq_true (by omega),Bool.eq_false_iff.2 h];rfl
def zdi (AB:Option Addr)(nb cB:Nat)(AP:Option Addr)(np cP:Nat)(look beat:Int):Value:=.agg #[.slice AB nb cB,.slice AP np cP,.int .i64 look,.int .i64 beat]
theorem zkq (W:World)(h:List zao)(AB:Option Addr)(cB:Nat)(bs:List zaP)(AP:Option Addr)(cP:Nat)(ps:List zaG)(look beat:Int)(hrB:zaz W h AB bs.length 7 (bs.flatMap zaP.enc))(hrP:zaz W h AP ps.length 3 (ps.flatMap zaG.enc))(hb:bs.length≤1000000)(hp:ps.length≤1000000):
 zaw Tryz.prog W 56 [zdi AB bs.length cB AP ps.length cP look beat] h (.bool (isR bs ps look beat)):=by
 refine zaw.ofD (fun h' hs=> ?_)
 have hcb:∀k,(∀c∈h',c∈k)→zaw Tryz.prog W 94 [.slice AB bs.length cB,.func (.func 89) #[] #[]] k (.bool (!bs.all zcU)):=fun k hk=>
  (zfU W k AB bs.length cB bs rfl ((hrB.mono hs).mono hk) 89 [] (fun x=> !zcU x) (fun x _=>(zo2 W x).mono (by simp)) (by omega)).cast (by rw[zm6])
 have hcp:∀g k,(∀c∈h',c∈k)→zao.blk g 73 [.int .u64 (zdh ps ps.length)]∈k→zaw Tryz.prog W 95 [.slice AP ps.length cP,.func (.func 92) #[] #[.pointer (some ⟨g,0,none⟩)]] k (.bool (!ps.all (fun p=>zeh p (zdh ps ps.length)))):=fun g k hk hm=>
  (zfg W k AP ps.length cP ps rfl ((hrP.mono hs).mono hk) 92 [.pointer (some ⟨g,0,none⟩)] (fun x=> !zeh x (zdh ps ps.length)) (fun x _=>(zo3 W x _ g).mono (by simpa using hm)) (by omega)).cast (by rw[zm6])
 have hdl:=fun k hk (hl:ps.length≤8)=>zji W k AP cP ps ((hrP.mono hs).mono hk) hl
 generalize ha:bs.all zcU=a at hcb
 generalize hbb:(ps.all fun p=>zeh p (zdh ps ps.length))=b at hcp
 refine zaf Tryz.func56 rfl rfl Tryz.results56 Tryz.ntmps56 rfl rfl ?_
 repeat' (first|apply zah|apply zaa|apply zak|apply zam|apply zag|apply zac hT;iterate 4 exact rfl|apply zaK;iterate 3 exact rfl|(apply zab (hs:=((zm5 W _ _ _).mono (by simp)));iterate 7 exact rfl)|(apply zab (hs:=(hdl _ (by(first|exact fun _ h=>.tail _ h|exact fun _ h=>.tail _ (.tail _ h))) (by have:=zck (show inB (ps.length:Int) 1 8=true by simpa using ‹(!inB (ps.length:Int) 1 8)=false›);omega)));iterate 7 exact rfl)|(apply zay hT;(iterate 5 exact rfl);first|(fail_if_success (have q:=g4));intro g4)|(apply zar hT;(iterate 6 exact rfl);exact sX;(iterate 3 exact rfl);exact nle rfl)|(apply zab (hs:=(hcb _ (by(first|exact fun _ h=>.tail _ (.tail _ h)))));iterate 7 exact rfl)|(apply zab (hs:=(hcp g4 _ (by(first|exact fun _ h=>.tail _ (.tail _ h))) mX));iterate 7 exact rfl)|(apply zad;(iterate 5 exact rfl);first|(apply zaq hT;exact rfl;exact rfl;exact mX;exact rfl;exact rfl))|(apply zaA;(iterate 5 exact rfl);intro _)|(apply zas;iterate 2 exact rfl)|(apply zaH;exact rfl;all_goals(intro hb;(fail_if_success (change true=true at hb));(fail_if_success (change false=false at hb));(try dsimp only at hb);(try simp only[hb]);(first|skip);(try omega)))|(apply zal;exact rfl;all_goals(intro hb;(try dsimp only at hb);(try simp only[hb]);(first|skip);(try omega))))
 all_goals first
  |(apply ret1;exact rfl;exact⟨by unfold isR;rw[ha,hbb];clear ha hbb hcb hcp hdl hrB hrP;simp_all,dX⟩)
  |skip
def zdW (p:Nat)(A:Option Addr)(c:Nat)(U:Option Addr)(u:Nat)(ps:List zaG)(used:List Int)(F:List zao):List zao:=
 .blk p 139 [.slice A ps.length c,.slice U ps.length u]::.own A ps.length c 97 3 (ps.flatMap zaG.enc)::.own U ps.length u 2 1 (used.map (Value.int .i64))::F
theorem zo4 (W:World)(h:List zao)(AB:Option Addr)(cB:Nat)(bs:List zaP)(AP:Option Addr)(cP:Nat)(ps:List zaG)(look beat:Int)(hrB:zaz W h AB bs.length 7 (bs.flatMap zaP.enc))(hrP:zaz W h AP ps.length 3 (ps.flatMap zaG.enc))(hb:bs.length≤1000000)(hp:ps.length≤1000000):
 zax Tryz.prog W 45 [zdi AB bs.length cB AP ps.length cP look beat] h
  (fun v h'=>(isR bs ps look beat=false∧v=.pointer none∧h'=h)∨(isR bs ps look beat=true∧∃p A c U u,v=.pointer (some ⟨p,0,none⟩)∧h'=zdW p A c U u ps (List.replicate ps.length 0) h)):=by
 refine zax.dropTo ?_
 have hI:=zkq W h AB cB bs AP cP ps look beat hrB hrP hb hp
 have hcl:=fun k (hk:∀c∈h,c∈k)=>zgI W k AP ps.length cP (ps.flatMap zaG.enc) (hrP.mono hk) (by omega)
 refine zaf Tryz.func45 rfl rfl Tryz.results45 Tryz.ntmps45 rfl rfl ?_
 cases hR:isR bs ps look beat
 ·rw[hR]at hI
  repeat' (first|apply zah|apply zaa|apply zak|apply zag|apply zac hT;iterate 4 exact rfl|(apply zab (hs:=(hI.mono (by(first|exact fun _ h=>.tail _ h))));iterate 7 exact rfl)|(apply zad;(iterate 5 exact rfl);first|(apply zaF hT;exact rfl;exact rfl;exact mX;exact rfl))|apply zaA;(iterate 5 exact rfl);intro _|apply zas;iterate 2 exact rfl)
  all_goals(apply ret1;exact rfl;exact⟨h,dX,.inl ⟨rfl,rfl,rfl⟩⟩)
 ·rw[hR]at hI
  repeat' (first|apply zah|apply zaa|apply zak|apply zam|apply zag|apply zac hT;iterate 4 exact rfl|(apply zbZ [] [] (.step 0 <| .step 1 <| .step 3 <| .alt (.step 2 <| .step 4 <| .step 5 <| .step 6 <| .step 7 <| .step 8 <| .step 9 <| .nil) ((.step 4 <| .step 5 <| .alt (.step 2 <| .step 6 <| .step 7 <| .step 8 <| .step 9 <| .nil) ((.step 6 <| .step 2 <| .step 7 <| .step 8 <| .step 9 <| .nil))))) hmix;decide+kernel)|apply zcJ|apply zf7|apply zb7;exact rfl|(apply zab (hs:=(hI.mono (by(first|exact fun _ h=>.tail _ h|exact fun _ h=>.tail _ (.tail _ h)))));iterate 7 exact rfl)|(apply zau (hs:=(hcl _ (by(first|exact fun _ h=>.tail _ h|exact fun _ h=>.tail _ (.tail _ h)))));(iterate 7 exact rfl);rintro _ _ ⟨A1,c1,rfl,rfl⟩)|apply zdV hT;(iterate 12 exact rfl);(iterate 1 exact rfl);omega;exact nle rfl;intro g12|apply zaE hT (cs:=[.slice A1 ps.length c1,.slice (some ⟨g12,0,none⟩) ps.length ps.length]);iterate 4 exact rfl|apply zaA;(iterate 5 exact rfl);intro g14|(apply zad;(iterate 5 exact rfl);first|(apply zaq hT;exact rfl;exact rfl;exact mX;exact rfl;exact rfl)|(apply zaF hT;exact rfl;exact rfl;exact mX;exact rfl))|apply zan;iterate 2 exact rfl)
  all_goals first
   |(apply ret1;exact rfl;exact⟨zdW g14 A1 c1 (some ⟨g12,0,none⟩) ps.length ps (List.replicate ps.length 0) h,by unfold zdW;rw[List.map_replicate];exact dX,.inr ⟨rfl,g14,A1,c1,some ⟨g12,0,none⟩,ps.length,rfl,rfl⟩⟩)
   |skip
structure PRow where
 A:Option Addr
 c:Nat
 l:List Int
def PRow.ck (r:PRow):zao:=.own r.A r.l.length r.c 2 1 (r.l.map (Value.int .i64))
def PRow.hd (r:PRow):Value:=.slice r.A r.l.length r.c
def zbo (p:Nat)(AC:Option Addr)(cC:Nat)(AR:Option Addr)(cR:Nat)(cash:List Int)(rs:List PRow)(F:List zao):List zao:=
 .blk p 69 [.slice AR rs.length cR,.slice AC cash.length cC]::.own AC cash.length cC 2 1 (cash.map (Value.int .i64))::.own AR rs.length cR 66 1 (rs.map PRow.hd)::(rs.map PRow.ck++F)
def zfh (np nb:Int):Bool:=decide (1≤np)&&decide (np≤8)&&(decide (1≤nb)&&decide (nb≤4))
theorem zm7 (W:World)(h:List zao)(np nb:Int):zax Tryz.prog W 6 [.int .i64 np,.int .i64 nb] h
 (fun v h'=>(zfh np nb=false∧v=.pointer none∧h'=h)∨(zfh np nb=true∧∃p AC cC AR cR rs,v=.pointer (some ⟨p,0,none⟩)∧h'=zbo p AC cC AR cR (List.replicate np.toNat 0) rs h∧rs.map PRow.l=List.replicate np.toNat (List.replicate nb.toNat 0))):=by
 refine zax.dropTo ?_
 refine zaf Tryz.func6 rfl rfl Tryz.results6 Tryz.ntmps6 rfl rfl ?_
 by_cases hin:(1≤np∧np≤8)∧(1≤nb∧nb≤4)
 rotate_left
 ·repeat' (first|apply zah|apply zaa|apply zak|apply zag|apply zac hT;iterate 4 exact rfl|apply zaK;iterate 3 exact rfl|apply zas;iterate 2 exact rfl|(apply zaH;exact rfl;all_goals(intro hb;(fail_if_success (change true=true at hb));(fail_if_success (change false=false at hb));(try dsimp only at hb);(try simp only[hb]);(first|replace hb:=odt hb|replace hb:=odf hb);(try omega)))|(apply zal;exact rfl;all_goals(intro hb;(try dsimp only at hb);(try simp only[hb]);(first|replace hb:=odt hb|replace hb:=odf hb);(try omega))))
  all_goals first
   |(exfalso;omega)
   |(apply ret1;exact rfl;exact⟨h,dX,.inl ⟨by unfold zfh;simp;omega,rfl,rfl⟩⟩)
   |skip
 obtain⟨⟨n1,n2⟩,n3,n4⟩:=hin
 have hp:zfh np nb=true:=by unfold zfh;simp;omega
 rw[hp]
 obtain⟨n,rfl⟩:=Int.eq_ofNat_of_zero_le (show 0≤np by omega)
 obtain⟨m,rfl⟩:=Int.eq_ofNat_of_zero_le (show 0≤nb by omega)
 simp only[Int.toNat_natCast]
 repeat' (first|apply zah|apply zaa|apply zam|apply zaj|apply zag|apply zac hT;iterate 4 exact rfl|apply zdV hT;(iterate 12 exact rfl);(iterate 1 exact rfl);omega;exact nle rfl;intro g21|apply zaE hT (cs:=[.slice none 0 0,.slice (some ⟨g21,0,none⟩) n n]);iterate 4 exact rfl|apply zaA;(iterate 5 exact rfl);intro g23|(apply zaH;exact rfl;all_goals(intro hb;(fail_if_success (change true=true at hb));(fail_if_success (change false=false at hb));(try dsimp only at hb);(try simp only[hb]);(first|replace hb:=odt hb|replace hb:=odf hb);(try omega)))|(apply zal;exact rfl;all_goals(intro hb;(try dsimp only at hb);(try simp only[hb]);(first|replace hb:=odt hb|replace hb:=odf hb);(try omega))))
 all_goals try omega
 refine zbI (fun w hw=>⟨_,hw.own_nil 66 1,?_⟩)
 refine za1 (α:=Nat×Option Addr×Nat×List PRow) (E:=fun x=>[(0,.int .i64 n),(1,.int .i64 m),(5,.pointer (some ⟨g23,0,none⟩)),(24,.int .i64 n),(25,.int .i64 x.1)])
  (H:=fun x=>zbo g23 (some ⟨g21,0,none⟩) n x.2.1 x.2.2.1 (List.replicate n 0) x.2.2.2 h) (μ:=fun x=>n - x.1)
  (S:=fun x=>x.1≤n∧x.2.2.2.map PRow.l=List.replicate x.1 (List.replicate m 0)) (0,none,0,[]) ⟨Nat.zero_le _,rfl⟩ ⟨rfl,rfl,rfl,rfl,rfl,trivial⟩ (by unfold zbo;rw[List.map_replicate,List.length_replicate];exact dX) ?_
 rintro⟨k,AR,cR,rs⟩ ⟨hk,hrs⟩
 dsimp only at hk hrs ⊢
 have hlen:rs.length=k:=by have:=congrArg List.length hrs;simpa using this
 by_cases hlt:k<n
 ·have hd1:decide ((k:Int)<(n:Int))=true:=by simp;omega
  unfold zbo
  repeat' (first|apply zah|apply zaa|apply zam|apply zaj|apply zag|apply zac hT;iterate 4 exact rfl|(apply zaM hT;(iterate 4 exact rfl);(iterate 2 (first|omega)))|(apply zbZ [] [] (.step 0 <| .step 1 <| .step 2 <| .step 3 <| .step 4 <| .step 5 <| .step 6 <| .step 7 <| .step 8 <| .step 9 <| .step 10 <| .step 11 <| .nil) hmix;decide+kernel)|apply zcJ|apply zb7;exact rfl|apply zdV hT;(iterate 12 exact rfl);(iterate 1 exact rfl);omega;exact nle rfl;intro g33|apply zaB hT;(iterate 12 exact rfl);intro g34|(apply zbb hT;(iterate 10 exact rfl);exact sX;exact zaz.own mem0 rfl (List.all_eq_true.1 rfl);omega;(show(_:Nat)*24≤_;omega);intro A' c')|(apply zar hT;(iterate 6 exact rfl);exact sX;(iterate 3 exact rfl);exact nle rfl)|(apply zad;(iterate 5 exact rfl);first|(apply zaq hT;exact rfl;exact rfl;exact mX;exact rfl;exact rfl))|(apply zal;exact rfl;all_goals(intro hb;(try dsimp only at hb);(try simp only[hb]);(first|replace hb:=odt hb|replace hb:=odf hb);(try omega))))
  all_goals first
   |(exfalso;omega)
   |(refine zaD (k+1,A',c',rs++[⟨some ⟨g33,0,none⟩,m,List.replicate m 0⟩]) (by dsimp only;omega) ⟨by dsimp only;omega,by dsimp only;rw[List.map_append,hrs,List.replicate_succ'];rfl⟩ ⟨rfl,rfl,rfl,rfl,rfl,trivial⟩ ?_
     dsimp only
     rw[lla,List.map_append,List.map_append,List.append_assoc]
     simp only[List.map_cons,List.map_nil,PRow.hd,PRow.ck,List.length_replicate,List.map_replicate,List.length_cons,List.length_nil,List.cons_append,List.nil_append]
     apply zaQ;exact sX
     apply zaQ;exact sX
     apply zaQ;exact sX
     refine zm0 ?_
     exact dX)
   |skip
 ·obtain rfl:k=n:=by omega
  have hd1:decide ((k:Int)<(k:Int))=false:=by simp
  repeat' (first|apply zah|apply zaa|apply zak|apply zaN|apply zag|apply zac hT;iterate 4 exact rfl|(apply zal;exact rfl;all_goals(intro hb;(try dsimp only at hb);(try simp only[hb]);(first|replace hb:=odt hb|replace hb:=odf hb);(try omega))))
  all_goals first
   |(exfalso;omega)
   |(apply ret1;exact rfl;exact⟨_,zaX,.inr ⟨by trivial,g23,_,_,_,_,_,rfl,rfl,hrs⟩⟩)
end Go.Proofs.YteocfhdocpeokaaGreat
namespace Go.Sl
open Go
theorem zcR {P:Program}{W:World}{N:Nat}{env:Env}{h:List zao}{kf:KF}{ops:Array Oper}{K:Env→List zao→Prop}{rest:List Oper}{b:Bool}{e f r:Int}{k:IntKind}{op:BinOp}{d:Tmp}{t yt:TypeId}{x y:Operand}{ty pos af g}(hg:zbw ops env g=some b)(hb:b=true)(hd:Nat.blt d N=true)(hop:zqd op=true)(hx:za0 env x=some (.int k e))(hy:za0 env y=some (.int k f))(hv:bitI op k e f=r)
 (hK:ES P W N kf ops rest ((d,.int k r)::env) h K):ES P W N kf ops (⟨some d,.binOp op t x y yt,ty,pos,af,g⟩::rest) env h K:=zcr hg hb hd hop hx hy (by rw[hv];exact hK)
end Go.Sl
namespace Go.Proofs.YteocfhdocpeokaaGreat
open Go Go.Sl
attribute [local irreducible] AW ES EP Ld RetQ
set_option maxRecDepth 100000
theorem zl2 (W:World)(h:List zao):zax Tryz.prog W 48 [] h (fun v h'=>∃p,v=.pointer (some ⟨p,0,none⟩)∧h'=.blk p 142 [.slice none 0 0]::h):=by
 refine zaf Tryz.func48 rfl rfl Tryz.results48 Tryz.ntmps48 rfl rfl ?_
 repeat' (first|apply zah|apply zaa|apply zak|apply zag|apply zac hT;iterate 4 exact rfl|apply zaE hT (cs:=[.slice none 0 0]);iterate 4 exact rfl|apply zaA;(iterate 5 exact rfl);intro _)
 all_goals(apply ret1;exact rfl;exact⟨_,rfl,rfl⟩)
theorem zo5 (W:World)(h:List zao):zax Tryz.prog W 49 [] h (fun v h'=>∃p,v=.pointer (some ⟨p,0,none⟩)∧h'=.blk p 144 [.slice none 0 0]::h):=by
 refine zaf Tryz.func49 rfl rfl Tryz.results49 Tryz.ntmps49 rfl rfl ?_
 repeat' (first|apply zah|apply zaa|apply zak|apply zag|apply zac hT;iterate 4 exact rfl|apply zaE hT (cs:=[.slice none 0 0]);iterate 4 exact rfl|apply zaA;(iterate 5 exact rfl);intro _)
 all_goals(apply ret1;exact rfl;exact⟨_,rfl,rfl⟩)
theorem zo6 (W:World)(h:List zao):zax Tryz.prog W 50 [] h (fun v h'=>∃p,v=.pointer (some ⟨p,0,none⟩)∧h'=.blk p 147 [.slice none 0 0]::h):=by
 refine zaf Tryz.func50 rfl rfl Tryz.results50 Tryz.ntmps50 rfl rfl ?_
 repeat' (first|apply zah|apply zaa|apply zak|apply zag|apply zac hT;iterate 4 exact rfl|apply zaE hT (cs:=[.slice none 0 0]);iterate 4 exact rfl|apply zaA;(iterate 5 exact rfl);intro _)
 all_goals(apply ret1;exact rfl;exact⟨_,rfl,rfl⟩)
theorem zm8 (W:World)(h:List zao):zax Tryz.prog W 51 [] h (fun v h'=>∃p,v=.pointer (some ⟨p,0,none⟩)∧h'=.blk p 149 [.slice none 0 0,.int .u64 0]::h):=by
 refine zaf Tryz.func51 rfl rfl Tryz.results51 Tryz.ntmps51 rfl rfl ?_
 repeat' (first|apply zah|apply zaa|apply zak|apply zag|apply zac hT;iterate 4 exact rfl|apply zaE hT (cs:=[.slice none 0 0,.int .u64 0]);iterate 4 exact rfl|apply zaA;(iterate 5 exact rfl);intro _)
 all_goals(apply ret1;exact rfl;exact⟨_,rfl,rfl⟩)
theorem zm9 (W:World)(h:List zao):zax Tryz.prog W 52 [] h (fun v h'=>∃p,v=.pointer (some ⟨p,0,none⟩)∧h'=.blk p 152 [.slice none 0 0]::h):=by
 refine zaf Tryz.func52 rfl rfl Tryz.results52 Tryz.ntmps52 rfl rfl ?_
 repeat' (first|apply zah|apply zaa|apply zak|apply zag|apply zac hT;iterate 4 exact rfl|apply zaE hT (cs:=[.slice none 0 0]);iterate 4 exact rfl|apply zaA;(iterate 5 exact rfl);intro _)
 all_goals(apply ret1;exact rfl;exact⟨_,rfl,rfl⟩)
def kb1 :zaP:=⟨5,10,10,100,5,500,false⟩
def kb2 :zaP:=⟨1,1,1,1000,1,1000,false⟩
def kps :List zaG:=[⟨1,12,0⟩,⟨1,4,0⟩,⟨2,0,100000⟩,⟨2,0,3000⟩,⟨3,0,0⟩]
theorem zqB (W:World)(h:List zao):zax Tryz.prog W 17 [.int .i64 0] h
 (fun v h'=>∃g1 g2,v=zdi (some ⟨g1,0,none⟩) 2 2 (some ⟨g2,0,none⟩) 5 5 3 50∧h'=.own (some ⟨g1,0,none⟩) 2 2 95 7 ([kb1,kb2].flatMap zaP.enc)::.own (some ⟨g2,0,none⟩) 5 5 97 3 (kps.flatMap zaG.enc)::h):=by
 refine zax.dropTo ?_
 refine zaf Tryz.func17 rfl rfl Tryz.results17 Tryz.ntmps17 rfl rfl ?_
 repeat' (first|apply zah|apply zaa|apply zak|apply zam|apply zaj|apply zag|apply zac hT;iterate 4 exact rfl|apply zaE hT (cs:=zaP.enc kb1);iterate 4 exact rfl|apply zaE hT (cs:=zaP.enc kb2);iterate 4 exact rfl|apply zaE hT (cs:=zaG.enc ⟨1,12,0⟩);iterate 4 exact rfl|apply zaE hT (cs:=zaG.enc ⟨1,4,0⟩);iterate 4 exact rfl|apply zaE hT (cs:=zaG.enc ⟨2,0,100000⟩);iterate 4 exact rfl|apply zaE hT (cs:=zaG.enc ⟨2,0,3000⟩);iterate 4 exact rfl|apply zaE hT (cs:=zaG.enc ⟨3,0,0⟩);iterate 4 exact rfl|(apply zaB hT;(iterate 12 exact rfl);first|(fail_if_success (have q:=g10));intro g10|intro g16)|(apply zaE hT (cs:=(zdi (some ⟨g10,0,none⟩) 2 2 (some ⟨g16,0,none⟩) 5 5 3 50).cells.toList);iterate 4 exact rfl)|(apply zcR;(iterate 6 exact rfl);exact(by decide+kernel:bitI .and .i64 0 3=0))|(apply zar hT;(iterate 6 exact rfl);exact sX;(iterate 3 exact rfl);exact nle rfl)|(apply zad;(iterate 5 exact rfl);first|(apply zaF hT;exact rfl;exact rfl;exact mX;exact rfl))|(apply zay hT;(iterate 5 exact rfl);intro _)|(apply zan;iterate 2 exact rfl))
 all_goals first
  |(apply zhv;exact rfl;(apply zaF hT;exact rfl;exact rfl;exact mX;exact rfl);exact⟨_,(by show za7 _ (.own (some ⟨g10,0,none⟩) 2 2 95 7 ([kb1,kb2].flatMap zaP.enc)::.own (some ⟨g16,0,none⟩) 5 5 97 3 (kps.flatMap zaG.enc)::h);exact dX),g10,g16,rfl,rfl⟩)
  |skip
end Go.Proofs.YteocfhdocpeokaaGreat
namespace Go.Proofs.YteocfhdocpeokaaGreat
open Go Go.Sl
structure Dk where
 bonds:List zaP
 parties:List zaG
 look:Int
 beat:Int
 now:Int
 books:List (List zap)
 used:List Int
 quotes:List zat
 asks:List AskR
 due:List Due
 cash:List Int
 pos:List (List Int)
 trades:List zaL
 head:Int
 order:Int
 seq:Int
 quote:Int
 ask:Int
def zcV (bs:List zaP)(ps:List zaG)(look beat:Int):Dk:=
 ⟨bs,ps,look,beat,0,List.replicate bs.length [],List.replicate ps.length 0,[],[],[],List.replicate ps.length 0,List.replicate ps.length (List.replicate bs.length 0),[],0,0,0,0,0⟩
structure Sp where
 A:Option Addr
 c:Nat
def Sp.sl (s:Sp)(n:Nat):Value:=.slice s.A n s.c
def Sp.own (s:Sp)(n:Nat)(t:TypeId)(k:Nat)(cs:List Value):zao:=.own s.A n s.c t k cs
structure BAd where
 p:Nat
 s:Sp
 l:List zap
def BAd.ptr (b:BAd):Value:=.pointer (some ⟨b.p,0,none⟩)
def BAd.ck (b:BAd):List zao:=[.blk b.p 152 [b.s.sl b.l.length],b.s.own b.l.length 168 6 (b.l.flatMap zap.enc)]
structure DAd where
 d:Nat
 f:Nat
 q:Nat
 a:Nat
 u:Nat
 p:Nat
 b:Nat
 bonds:Sp
 parties:Sp
 books:Sp
 fparties:Sp
 used:Sp
 quotes:Sp
 asks:Sp
 due:Sp
 cash:Sp
 pos:Sp
 trades:Sp
def ptrV (n:Nat):Value:=.pointer (some ⟨n,0,none⟩)
def zbD (x:DAd)(s:Dk):List Value:=[x.bonds.sl s.bonds.length,x.parties.sl s.parties.length,.int .i64 s.look,.int .i64 s.beat,.int .i64 s.now,x.books.sl s.books.length,ptrV x.f,ptrV x.q,ptrV x.a,ptrV x.u,ptrV x.p,ptrV x.b,
 .int .i64 s.order,.int .i64 s.seq,.int .i64 s.quote,.int .i64 s.ask]
def zae (x:DAd)(s:Dk)(bks:List BAd)(rows:List PRow)(F:List zao):List zao:=
 .blk x.d 112 (zbD x s)::x.bonds.own s.bonds.length 95 7 (s.bonds.flatMap zaP.enc)::x.parties.own s.parties.length 97 3 (s.parties.flatMap zaG.enc)
  ::x.books.own s.books.length 113 1 (bks.map BAd.ptr)
  ::.blk x.f 139 [x.fparties.sl s.parties.length,x.used.sl s.parties.length]::x.fparties.own s.parties.length 97 3 (s.parties.flatMap zaG.enc)::x.used.own s.parties.length 2 1 (s.used.map (Value.int .i64))
  ::.blk x.q 142 [x.quotes.sl s.quotes.length]::x.quotes.own s.quotes.length 174 6 (s.quotes.flatMap zat.enc)
  ::.blk x.a 144 [x.asks.sl s.asks.length]::x.asks.own s.asks.length 87 10 (s.asks.flatMap AskR.enc)
  ::.blk x.u 147 [x.due.sl s.due.length]::x.due.own s.due.length 160 3 (s.due.flatMap Due.enc)
  ::.blk x.p 69 [x.pos.sl rows.length,x.cash.sl s.cash.length]::x.cash.own s.cash.length 2 1 (s.cash.map (Value.int .i64))::x.pos.own rows.length 66 1 (rows.map PRow.hd)
  ::.blk x.b 149 [x.trades.sl s.trades.length,.int .u64 s.head]::x.trades.own s.trades.length 30 8 (s.trades.flatMap zaL.enc)
  ::(bks.flatMap BAd.ck++(rows.map PRow.ck++F))
def zaY (s:Dk)(bks:List BAd)(rows:List PRow):Prop:=bks.map BAd.l=s.books∧rows.map PRow.l=s.pos
def at0 {α:Type}(l:List α)(i:Int):Option α:=if i<0 then none else l[i.toNat]?
def inW (n:Int):Prop:= -9223372036854775808≤n∧n≤9223372036854775807
def inI (n:Int):Bool:=inB n (-9223372036854775808) 9223372036854775807
theorem zeP {n:Int}(h:inI n=true): -9223372036854775808≤n∧n≤9223372036854775807:=zck h
theorem zqC {n:Int}(h:inI n=false):n< -9223372036854775808∨9223372036854775807<n:=zrS h
structure Ps where
 cash:List Int
 pos:List (List Int)
def zcv (p:Ps)(who bond:Int):Int:=((at0 p.pos who).bind fun r=>at0 r bond).getD 0
def zb1 (p:Ps)(who:Int):Int:=(at0 p.cash who).getD 0
def zdo (p:Ps)(who bond:Int):Bool:=decide (0≤who)&&(decide (who<p.cash.length)&&(decide (0≤bond)&&decide (bond<((at0 p.pos who).getD []).length)))
def putE (p:Ps)(t:zaL):Int:=
 if zdo p t.buyer t.bond=false∨zdo p t.seller t.bond=false∨t.buyer=t.seller∨t.price<1∨t.qty<1 then 1
 else if inI (t.price*t.qty)&&inI (zcv p t.buyer t.bond+t.qty)&&inI (zcv p t.seller t.bond - t.qty)&&inI (zb1 p t.buyer - t.price*t.qty)&&inI (zb1 p t.seller+t.price*t.qty)then 0 else 15
def setRow (l:List (List Int))(who bond n:Int):List (List Int):=l.set who.toNat (((at0 l who).getD []).set bond.toNat n)
def putP (p:Ps)(t:zaL):Ps:=
 if putE p t=0 then⟨(p.cash.set t.buyer.toNat (zb1 p t.buyer - t.price*t.qty)).set t.seller.toNat (zb1 p t.seller+t.price*t.qty),
  setRow (setRow p.pos t.buyer t.bond (zcv p t.buyer t.bond+t.qty)) t.seller t.bond (zcv p t.seller t.bond - t.qty)⟩else p
theorem zgk {α:Type}:∀{l:List α} {i:Nat},i<l.length→∃R,∀a,(l.set i a).Perm (a::R)
 |[],i,h=>absurd h (Nat.not_lt_zero _)
 |x::l,0,_=>⟨l,fun a=>plr _⟩
 |x::l,i+1,h=>by
  obtain⟨R,hR⟩:=zgk (l:=l) (i:=i) (by simpa using h)
  exact⟨x::R,fun a=>((hR a).cons x).trans (List.Perm.swap _ _ _)⟩
theorem zjk {α:Type}:∀{l:List α} {i j:Nat},i<l.length→j<l.length→i≠j→∃R,∀a b,((l.set i a).set j b).Perm (a::b::R)
 |[],i,j,h,_,_=>absurd h (Nat.not_lt_zero _)
 |x::l,0,0,_,_,h=>absurd rfl h
 |x::l,0,j+1,_,h,_=>by
  obtain⟨R,hR⟩:=zgk (l:=l) (i:=j) (by simpa using h)
  exact⟨R,fun a b=>(hR b).cons a⟩
 |x::l,i+1,0,h,_,_=>by
  obtain⟨R,hR⟩:=zgk (l:=l) (i:=i) (by simpa using h)
  exact⟨R,fun a b=>((hR a).cons b).trans (List.Perm.swap _ _ _)⟩
 |x::l,i+1,j+1,h1,h2,h3=>by
  obtain⟨R,hR⟩:=zjk (l:=l) (i:=i) (j:=j) (by simpa using h1) (by simpa using h2) (by omega)
  exact⟨x::R,fun a b=>((hR a b).cons x).trans (((List.Perm.swap a x _).trans ((List.Perm.swap b x R).cons a)))⟩
theorem zcC {α:Type}{l:List α}{i:Nat}{a:α}(h:l[i]? =some a):l.set i a=l:=by
 obtain⟨hi,rfl⟩:=gsi.1 h
 exact List.set_getElem_self hi
/-! ### messages -/
def MsgR.nums (m:MsgR):List Int:=[m.f0,m.f1,m.f2,m.f3,m.f4,m.f5]
def zrn (kind:Int)(l:List Int):MsgR:=⟨kind,l.getD 0 0,l.getD 1 0,l.getD 2 0,l.getD 3 0,l.getD 4 0,l.getD 5 0⟩
def outM (to kind:Int)(l:List Int):OutR:=⟨to,zrn kind l⟩
def zsT :List Int:=[-1,1,0,0,1,0,5,1,3,5,3,1,1,1,1,1,1,2,2,2,4,2,5,4,3,2,2,1,6]
def zhx (k:Int):Int:=if k<0∨k≥29 then -1 else zsT.getD k.toNat (-1)
def zna (m:MsgR):Bool:=decide (zhx m.kind≥0)&&(((MsgR.nums m).drop (zhx m.kind).toNat).all fun v=>v==0)
def zhQ (k:Int):Bool:=inB k 6 17
/-! ### trades -/
def zigN (n:Int):Nat:=if n<0 then 2*(-(n+1)).toNat+1 else 2*n.toNat
def oneN (z:Nat):List Nat:=if h:z<128 then [z]else(z%128+128)::oneN (z / 128)
termination_by z
decreasing_by omega
def zdX (l:List Int):List Nat:=l.flatMap fun n=>oneN (zigN n)
def mixN (x b:Nat):Nat:=((x ^^^ b)*1099511628211)%18446744073709551616
def zcf (last:Nat)(bs:List Nat):Nat:=let x:=bs.foldl mixN (last ^^^ 1469598103934665603);x ^^^ (x / 536870912)
def zbR (t:zaL):List Nat:=zdX [t.id,t.bond,t.buyer,t.seller,t.price,t.qty,t.ask,t.tick]
def zdE (t:zaL):List OutR:=[outM t.buyer 28 [t.id,1,t.bond,t.price,t.qty,t.seller],outM t.seller 28 [t.id,2,t.bond,t.price,t.qty,t.buyer]]
def zei (b:zaP)(p:Int):Int:=if inB p b.low b.high=false then 10 else if p%b.tick≠0 then 7 else 0
def qtyE (b:zaP)(q:Int):Int:=if inB q b.min b.max=false then 9 else if q%b.lot≠0 then 8 else 0
def zdj (b:zaP)(p q:Int):Int:=if b.halted then 6 else if zei b p≠0 then zei b p else qtyE b q
def znb (b:zaP)(how p q:Int):Int:=if how≠4 then zdj b p q else if p≠0 then 1 else if b.halted then 6 else qtyE b q
def zcs (ps:List zaG)(who:Int):Int:=((at0 ps who).map zaG.role).getD 0
def mayV (ps:List zaG)(who kind:Int):Bool:=
 if kind=6∨kind=7∨kind=8 then zcs ps who==1||zcs ps who==2
 else if kind=9∨kind=12∨kind=13∨kind=16 then zcs ps who==1
 else if kind=10∨kind=11∨kind=14∨kind=15 then zcs ps who==2
 else if kind=17 then zcs ps who==3 else false
def zgJ (x i:Int):Bool:=decide (x / 2^i.toNat%2=1)
def zf9 (ps:List zaG)(who dealers:Int):Int:=
 if zcs ps who≠1 then 5 else if dealers=0∨bitI .andNot .u64 dealers (((at0 ps who).map zaG.asks).getD 0)≠0 then 1 else 0
def zdY (used:List Int)(who:Int):Int:=(at0 used who).getD 0
def zdb (ps:List zaG)(used:List Int)(who price qty:Int):Int:=
 if zcs ps who≠2 then 5 else if price<1∨qty<1 then 1 else if price*qty>9223372036854775807 then 15
 else if zdY used who+price*qty>9223372036854775807 then 15 else if zdY used who+price*qty>((at0 ps who).map zaG.cap).getD 0 then 14 else 0
structure PosB (b:zaP):Prop where
 tick:1≤b.tick
 lot:1≤b.lot
 low:1≤b.low
 min:1≤b.min
 high:b.high≤1000000
 max:b.max≤1000000
theorem zet {b:zaP}(h:zcU b=true):PosB b:=by
 unfold zcU at h
 simp only[Bool.and_eq_true]at h
 obtain⟨⟨⟨⟨a1,a2⟩,a3⟩,⟨b1,b2⟩,b3⟩,_⟩:=h
 have a1:=zck a1
 have a2:=zck a2
 have a3:=zck a3
 have b1:=zck b1
 have b2:=zck b2
 have b3:=zck b3
 exact⟨by omega,by omega,by omega,by omega,by omega,by omega⟩
theorem zcD {ps:List zaG}{who:Int}(h:zcs ps who≠0):0≤who∧who<ps.length∧∃p,ps[who.toNat]? =some p∧p.role=zcs ps who:=by
 unfold zcs at0 at h
 split at h
 ·exact absurd rfl h
 ·rename_i hw
  rcases hp:ps[who.toNat]? with _|p
  ·rw[hp]at h;exact absurd rfl h
  ·have hl:=(gsi.1 hp).1
   refine⟨by omega,by omega,p,rfl,?_⟩
   unfold zcs at0
   rw[if_neg hw,hp];rfl
theorem zqD {ps:List zaG}{who:Int}{p:zaG}(h0:0≤who)(hp:ps[who.toNat]? =some p):zcs ps who=p.role:=by
 unfold zcs at0
 rw[if_neg (by omega),hp];rfl
theorem zo7 {ps:List zaG}{who:Int}(h:who<0∨(ps.length:Int)≤who):zcs ps who=0:=by
 unfold zcs at0
 split
 ·rfl
 ·rw[List.getElem?_eq_none (by omega)];rfl
end Go.Proofs.YteocfhdocpeokaaGreat
namespace Go.Proofs.YteocfhdocpeokaaGreat
open Go Go.Sl
attribute [local irreducible] AW ES Ld RetQ
set_option maxRecDepth 100000
theorem zdw (W:World)(h:List zao)(A:Option Addr)(n c:Nat)(l:List zap)(hn:l.length=n)(hr:zaz W h A n 6 (l.flatMap zap.enc))(fn:FuncId)(cap:List Value)(p:zap→Bool)
 (hf:∀x∈l,zaw Tryz.prog W fn ([.agg x.enc.toArray]++cap) h (.bool (p x)))(hb:n≤4611686018427387903):
 zaw Tryz.prog W 169 [.slice A n c,.func (.func fn) #[] cap.toArray] h (.int .i64 (zaT p l)):=by
 refine zaw.of (fun h' hs=> ?_)
 have hr':=hr.mono hs
 refine zaf Tryz.func169 rfl rfl Tryz.results169 Tryz.ntmps169 rfl rfl ?_
 refine zaI hr' rfl (fun hA=> ?_)
 repeat' (first|apply zah|apply zaa|apply zaj|apply zag|apply zac hT;iterate 4 exact rfl)
 refine zbT (α:=Nat) (E:=fun k=>[(0,.slice A n c),(1,.func (.func fn) #[] cap.toArray),(7,.int .i64 n),(8,.int .i64 k)]) (H:=fun _=>h') (μ:=fun k=>n - k)
  (S:=fun k=>k≤n∧∀(j:Nat) y,j<k→l[j]? =some y→p y=false) 0 (J:=[]) ⟨Nat.zero_le _,fun j y hj=>by omega⟩ ⟨rfl,rfl,rfl,rfl,trivial⟩ (plr _) ?_
 rintro k ⟨hk1,hk2⟩
 by_cases hlt:k<n
 ·obtain⟨x,hx⟩:∃x,l[k]? =some x:=⟨l[k]'(by omega),gge (by omega)⟩
  have hx2:l[(k:Int).toNat]? =some x:=by simpa using hx
  have hfx:=(hf x (mog hx)).mono hs
  have hA':=hA (by omega)
  repeat' (first|apply zah|apply zaa|apply zak|apply zam|apply zaj|apply zag|apply zac hT;iterate 4 exact rfl|apply zaM hT;(iterate 4 exact rfl);(iterate 2 omega)|apply zaJ hT;(iterate 8 exact rfl);(iterate 2 omega);exact hA'|apply zad;(iterate 5 exact rfl);exact zaO hT rfl rfl hr' zap.enc_len rfl hx2 rfl|apply zab (hs:=hfx);iterate 7 exact rfl|(apply zal;exact rfl;all_goals(intro hb;(try simp only[hb]);(first|replace hb:=odt hb|replace hb:=odf hb|skip);(try omega))))
  ·exact zca (J:=[]) rfl (by rw[zds hx hb hk2]) (plr _)
  ·have hpx:=hb
   refine⟨k+1,[],by dsimp only;omega,⟨by omega,fun j y hj hy=> ?_⟩,⟨rfl,rfl,rfl,rfl,trivial⟩,plr _⟩
   by_cases hjk:j<k
   ·exact hk2 j y hjk hy
   ·obtain rfl:j=k:=by omega
    rw[hx]at hy;cases hy;exact hpx
 ·repeat' (first|apply zah|apply zaa|apply zak|apply zaN|apply zag|apply zac hT;iterate 4 exact rfl|(apply zal;exact rfl;all_goals(intro hb;(try simp only[hb]);(first|replace hb:=odt hb|replace hb:=odf hb);(try omega))))
  exact zca (J:=[]) rfl (by rw[zb6 (fun(j:Nat) y hj=>hk2 j y (by have:=(gsi.1 hj).1;omega) hj)]) (plr _)
theorem zdF (W:World)(h:List zao)(A:Option Addr)(n c:Nat)(l:List zap)(hn:l.length=n)(hr:zaz W h A n 6 (l.flatMap zap.enc))(fn:FuncId)(cap:List Value)(p:zap→Bool)
 (hf:∀x∈l,zaw Tryz.prog W fn ([.agg x.enc.toArray]++cap) h (.bool (p x)))(hb:n≤4611686018427387903):
 zaw Tryz.prog W 244 [.slice A n c,.func (.func fn) #[] cap.toArray] h (.bool (decide (zaT p l≥0))):=by
 refine zaw.of (fun h' hs=> ?_)
 refine zaf Tryz.func244 rfl rfl Tryz.results244 Tryz.ntmps244 rfl rfl ?_
 repeat' (first|apply zah|apply zaa|apply zak|apply zag|apply zac hT;iterate 4 exact rfl|apply zab (hs:=((zdw W h A n c l hn hr fn cap p hf hb).mono hs));iterate 7 exact rfl)
 exact zca (J:=[]) rfl rfl (plr _)
theorem zkr (W:World)(F:List zao)(A:Option Addr)(n c:Nat)(i j:Int)(cs:List Value)(h0:0≤i)(hij:i≤j)(hjn:j≤n):
 zax Tryz.prog W 127 [.slice A n c,.int .i64 i,.int .i64 j] (.own A n c 168 6 cs::F)
  (fun v h'=>v=.slice A (n - (j.toNat - i.toNat)) c∧h'=.own A (n - (j.toNat - i.toNat)) c 168 6 (cs.take (i.toNat*6)++cs.drop (j.toNat*6))::F):=by
 obtain⟨i,rfl⟩:=Int.eq_ofNat_of_zero_le h0
 obtain⟨j,rfl⟩:=Int.eq_ofNat_of_zero_le (show 0≤j by omega)
 simp only[Int.toNat_natCast]
 by_cases hij0:i=j
 ·subst hij0
  have he:((i:Int)==(i:Int))=true:=by simp
  refine zaf Tryz.func127 rfl rfl Tryz.results127 Tryz.ntmps127 rfl rfl ?_
  refine zbi mem0 (fun hl hnc hcc hsome hnone hone=> ?_)
  repeat' (first|apply zah|apply zaa|apply zak|apply zag|apply zac hT;iterate 4 exact rfl|apply zfd hT;(iterate 10 exact rfl);(iterate 3 omega)|apply zas;exact rfl;exact he)
  apply ret1;exact rfl
  exact⟨by simp,by simp⟩
 ·have he:((i:Int)==(j:Int))=false:=by simp;omega
  have hlt:i<j:=by omega
  have hz:(ti168.zero.cells.toList).length=6:=rfl
  refine zax.conv (R:=fun v h'=>v=.slice A (n - (j - i)) c∧∃(g:Nat) (cur:List Value),A=some ⟨g,0,none⟩∧cur.length=c*6∧cur.take (n*6)=cs∧cs.length=n*6∧n≤c∧c≤9223372036854775807∧(∀v∈cs,v.oneCell'=true)∧
   h'=.blk g 168 (lay (lay cur (i*6) (cs.drop (j*6))) ((i+(n - j))*6) (repZ ti168.zero.cells.toList (n - (i+(n - j)))))::F) ?_ ?_
  rotate_left
  ·rintro v h' ⟨hv,g,cur,rfl,hcl,htk,hl,hnc,hcc,hone,rfl⟩ w hw
   have hdl:(cs.drop (j*6)).length=(n - j)*6:=by rw[List.length_drop,hl,Nat.sub_mul]
   have hyl:(lay cur (i*6) (cs.drop (j*6))).length=c*6:=by rw[zcK (by omega)];exact hcl
   have hzl:(repZ ti168.zero.cells.toList (n - (i+(n - j)))).length=(n - (i+(n - j)))*6:=by rw[zdU,hz]
   have hcut:(lay (lay cur (i*6) (cs.drop (j*6))) ((i+(n - j))*6) (repZ ti168.zero.cells.toList (n - (i+(n - j))))).take ((n - (j - i))*6)=cs.take (i*6)++cs.drop (j*6):=by
    rw[show(n - (j - i))*6=(i+(n - j))*6 by omega,zef (by omega)]
    have:=zeg (Y:=cur) (Z:=cs.drop (j*6)) (o:=i*6) (by omega)
    rw[hdl,←Nat.add_mul]at this
    rw[this,←htk,List.take_take,Nat.min_eq_left (by omega)]
   refine⟨_,hw.shut_ (n:=n - (j - i)) (c:=c) (k:=6) ?_ hcut ?_ (by omega) hcc ?_,hv,rfl⟩
   ·rw[zcK (by omega)];exact hyl
   ·rw[lla,hdl,llt,hl];omega
   ·intro u hu
    rcases lma.1 hu with hu|hu
    ·exact hone u (List.mem_of_mem_take hu)
    ·exact hone u (List.mem_of_mem_drop hu)
  refine zaf Tryz.func127 rfl rfl Tryz.results127 Tryz.ntmps127 rfl rfl ?_
  refine zbi mem0 (fun hl hnc hcc hsome hnone hone=> ?_)
  obtain⟨g,rfl⟩:=hsome (by omega)
  refine zfN sel0 (fun cur hcl htk _ _ _ _=> ?_)
  have hr0:zaz W (.blk g 168 cur::F) (some ⟨g,0,none⟩) n 6 cs:=zaz.blk mem0 (by simpa using htk) hl hone
  have hr1:=hr0.cut hnc (show j≤n by omega) (Nat.le_refl n)
  rw[List.take_of_length_le (by rw[List.length_drop,hl,Nat.sub_mul];omega)]at hr1
  have hdl:(cs.drop (j*6)).length=(n - j)*6:=hr1.len
  have hyl:(lay cur (i*6) (cs.drop (j*6))).length=c*6:=by rw[zcK (by omega)];exact hcl
  repeat' (first|apply zah|apply zaa|apply zak|apply zam|apply zag|apply zac hT;iterate 4 exact rfl|apply zaC [] [] hmix;decide+kernel|apply zfd hT;(iterate 10 exact rfl);(iterate 3 omega)|apply zan;exact rfl;exact he|apply zbU hT;(iterate 8 exact rfl);(iterate 2 omega)|apply zbu hT;(iterate 8 exact rfl);(iterate 3 omega);exact rfl|apply zhO hT (k:=6);(iterate 11 exact rfl);exact sel0;exact hr1;omega;(show i*6+(n - j)*6≤_;omega)|(apply zf8 hT;(iterate 9 exact rfl);(iterate 3 omega);exact zcq (by omega))|apply ziy hT (k:=6);(iterate 9 exact rfl);exact sel0;exact rfl;(show(i+(n - j))*6+(n - (i+(n - j)))*6≤(lay cur (i*6) (cs.drop (j*6))).length;omega))
  apply ret1;exact rfl
  exact⟨by rw[show n - (j - i)=i+(n - j)by omega];rfl,g,cur,rfl,hcl,htk,hl,hnc,hcc,hone,rfl⟩
end Go.Proofs.YteocfhdocpeokaaGreat
namespace Go.Proofs.YteocfhdocpeokaaGreat
open Go Go.Sl
/-! ### rows by an order -/
theorem zqE {α:Type}{p:α→α→Bool}{m:List α}{q:α}(h:m.Pairwise fun a b=>p a b=true)(htr:∀a b c,p a b=true→p b c=true→p a c=true)(htot:∀x∈m,p x q=true∨p q x=true){n:Nat}(hn:n=(m.takeWhile fun x=>p x q).length):
 (m.take n++[q]++m.drop n).Pairwise fun a b=>p a b=true:=by
 subst hn
 have hl:∀x∈m.take (m.takeWhile fun x=>p x q).length,p x q=true:=fun x hx=>zcj (p:=fun x=>p x q) (l:=m) x hx
 have hsplit:m.take (m.takeWhile fun x=>p x q).length++m.drop (m.takeWhile fun x=>p x q).length=m:=List.take_append_drop _ _
 have hp:=h
 rw[←hsplit,List.pairwise_append]at hp
 obtain⟨p1,p2,p3⟩:=hp
 have hr:∀y∈m.drop (m.takeWhile fun x=>p x q).length,p q y=true:=fun y hy=>by
  cases hm:m.drop (m.takeWhile fun x=>p x q).length with
  |nil=>rw[hm]at hy;cases hy
  |cons z r=>
   have hz:=zcB (p:=fun x=>p x q) (l:=m) hm
   have hzl:z∈m:=List.mem_of_mem_drop (by rw[hm];simp)
   have hqz:p q z=true:=by
    rcases htot z hzl with h|h
    ·rw[hz]at h;cases h
    ·exact h
   rw[hm]at hy p2
   rcases List.mem_cons.1 hy with rfl|hy
   ·exact hqz
   ·exact htr _ _ _ hqz (List.rel_of_pairwise_cons p2 hy)
 rw[List.append_assoc,List.pairwise_append]
 refine⟨p1,?_,fun x hx y hy=> ?_⟩
 ·rw[List.singleton_append,List.pairwise_cons];exact⟨hr,p2⟩
 ·rw[List.singleton_append]at hy
  rcases List.mem_cons.1 hy with rfl|hy
  ·exact hl x hx
  ·exact p3 x hx y hy
theorem znc {α:Type}{p:α→α→Bool}(has:∀x y,p x y=true→p y x=true→False):∀{a b:List α},a.Pairwise (fun x y=>p x y=true)→b.Pairwise (fun x y=>p x y=true)→a.Perm b→a=b
 |[],b,_,_,hp=>by rw[List.nil_perm.1 hp]
 |x::a,[],_,_,hp=>by have:=hp.length_eq;simp at this
 |x::a,y::b,ha,hb,hp=>by
  rw[List.pairwise_cons]at ha hb
  have hxy:x=y:=by
   rcases List.mem_cons.1 (hp.mem_iff.1 (mcs (a:=x) (l:=a)))with h|h
   ·exact h
   ·rcases List.mem_cons.1 (hp.mem_iff.2 (mcs (a:=y) (l:=b)))with h'|h'
    ·exact h'.symm
    ·exact(has _ _ (ha.1 y h') (hb.1 x h)).elim
  subst hxy
  rw[znc has ha.2 hb.2 (List.Perm.cons_inv hp)]
/-! ### orders -/
def zbG (s a b:Int):Bool:=(s==1&&decide (a>b))||(s==2&&decide (a<b))
def isB (s:Int):Bool:=s==1||s==2
def zcb (s:Int)(a b:zap):Bool:=if a.price=b.price then decide (a.seq<b.seq)else zbG s a.price b.price
theorem znd {s:Int}(a b c:zap)(h1:zcb s a b=true)(h2:zcb s b c=true):zcb s a c=true:=by
 unfold zcb zbG at*
 split at h1<;>split at h2<;>split<;>simp at* <;>omega
theorem zjl {s:Int}(a b:zap)(h1:zcb s a b=true)(h2:zcb s b a=true):False:=by
 unfold zcb zbG at*
 split at h1<;>split at h2<;>simp at* <;>omega
theorem zhR {s:Int}(hs:isB s=true)(a b:zap)(h:a.seq≠b.seq):zcb s a b=true∨zcb s b a=true:=by
 unfold zcb zbG isB at*
 simp at hs
 split<;>split<;>simp at* <;>omega
def cfO (a b:zap):Int:=if zbG a.side a.price b.price then -1 else if zbG a.side b.price a.price then 1 else cmpI a.seq b.seq
theorem zne {s:Int}(hs:isB s=true){a b:zap}(ha:a.side=s)(hb:b.side=s):(cfO a b<0)↔zcb s a b=true:=by
 unfold cfO zcb zbG cmpI isB at*
 subst ha
 simp at hs
 by_cases hp:a.price=b.price
 ·rw[if_pos hp,hp]
  simp
  split<;>(try split)<;>omega
 ·rw[if_neg hp]
  constructor
  ·intro h
   split at h
   ·assumption
   ·split at h
    ·omega
    ·rename_i h1 h2
     exfalso
     simp at h1 h2
     omega
  ·intro h
   rw[if_pos h];omega
def insO (s:Int)(out:List zap)(o:zap):List zap:=out.take (out.takeWhile fun x=>zcb s x o).length++[o]++out.drop (out.takeWhile fun x=>zcb s x o).length
def zbB (s:Int)(o:zap):Bool:=o.side==s
def za3 (s:Int)(l:List zap):List zap:=(l.filter (zbB s)).foldl (insO s) []
def zfi (l:List zap):Prop:=l.Pairwise fun a b=>a.seq≠b.seq
theorem zjm (s:Int)(out:List zap)(o:zap):(insO s out o).Perm (o::out):=zgi out o _
theorem zhS (s:Int):∀(l out:List zap),(l.foldl (insO s) out).Perm (l++out)
 |[],out=>plr _
 |x::l,out=>by
  rw[List.foldl_cons]
  exact(zhS s l (insO s out x)).trans ((List.Perm.append_left l (zjm s out x)).trans List.perm_middle)
theorem zhT {l r:List zap}(hp:r.Perm l)(h:zfi l):zfi r:=(hp.pairwise_iff (fun{a b} hab e=>hab e.symm)).2 h
theorem zlg {s:Int}(hs:isB s=true):∀(l out:List zap),zfi (l++out)→out.Pairwise (fun a b=>zcb s a b=true)→(l.foldl (insO s) out).Pairwise (fun a b=>zcb s a b=true)
 |[],out,_,h=>h
 |x::l,out,hu,h=>by
  rw[List.foldl_cons]
  have hu2:zfi (l++insO s out x):=by
   have hp:(x::l++out).Perm (l++insO s out x):=List.perm_middle.symm.trans (List.Perm.append_left l (zjm s out x).symm)
   exact zhT hp.symm hu
  refine zlg hs l (insO s out x) hu2 (zqE h (fun a b c=>znd a b c) (fun y hy=> ?_) rfl)
  have hu3:zfi (x::(l++out)):=hu
  unfold zfi at hu3
  rw[List.pairwise_cons]at hu3
  exact zhR hs y x (fun e=>hu3.1 y (mar _ hy) e.symm)
theorem zbW (s:Int)(l:List zap):(za3 s l).Perm (l.filter (zbB s)):=by
 have:=zhS s (l.filter (zbB s)) []
 rw[List.append_nil]at this;exact this
theorem zfj {s:Int}(hs:isB s=true){l:List zap}(hu:zfi l):(za3 s l).Pairwise (fun a b=>zcb s a b=true):=
 zlg hs _ [] (by rw[List.append_nil];exact hu.sublist List.filter_sublist) List.Pairwise.nil
theorem zcW (s:Int)(l:List zap):(za3 s l).length≤l.length:=by
 rw[(zbW s l).length_eq];exact List.length_filter_le _ _
theorem zbX {s:Int}{l:List zap}{o:zap}(h:o∈za3 s l):o∈l∧o.side=s:=by
 have:=(zbW s l).mem_iff.1 h
 rw[List.mem_filter]at this
 exact⟨this.1,by simpa [zbB]using this.2⟩
theorem zks {s:Int}{l m:List zap}(hu:zfi l)(hv:∀o∈l,isB o.side=true)(hp:m.Perm (l.filter (zbB s)))(hs:m.Pairwise (fun a b=>¬cfO b a<0)):m=za3 s l:=by
 by_cases hb:isB s=true
 ·refine znc (p:=zcb s) (fun x y=>zjl x y) ?_ (zfj hb hu) (hp.trans (zbW s l).symm)
  have hmu:zfi m:=zhT hp (hu.sublist List.filter_sublist)
  have hms:∀o∈m,o.side=s:=fun o ho=>by
   have:=hp.mem_iff.1 ho
   rw[List.mem_filter]at this
   simpa [zbB]using this.2
  refine List.Pairwise.imp_of_mem (fun{a b} ha hb' hab=> ?_) (hs.and hmu)
  rcases zhR hb a b hab.2 with h|h
  ·exact h
  ·exact absurd ((zne hb (hms b hb') (hms a ha)).2 h) hab.1
 ·have he:l.filter (zbB s)=[]:=by
   rw[List.filter_eq_nil_iff]
   intro o ho hos
   have:=hv o ho
   simp only[zbB,beq_iff_eq]at hos
   rw[hos]at this
   exact hb this
  rw[he]at hp
  rw[List.perm_nil.1 hp]
  unfold za3;rw[he];rfl
/-! ### levels -/
structure Lvl where
 price:Int
 qty:Int
 deriving DecidableEq
def Lvl.enc (v:Lvl):List Value:=[.int .i64 v.price,.int .i64 v.qty]
theorem Lvl.enc_len (v:Lvl):v.enc.length=2:=rfl
theorem Lvl.enc_one (v:Lvl):∀x∈v.enc,x.oneCell'=true:=List.all_eq_true.1 (rfl:v.enc.all Value.oneCell'=true)
def zcI (v:List Lvl)(o:zap):List Lvl:=match v.getLast? with
 |some x=>if x.price=o.price then v.dropLast++[⟨x.price,x.qty+o.left⟩]else v++[⟨o.price,o.left⟩]
 |none=>[⟨o.price,o.left⟩]
def za9 (o:List zap):List Lvl:=o.foldl zcI []
theorem zjn (v:List Lvl)(o:zap):(zcI v o).length≤v.length+1:=by
 unfold zcI
 split
 ·rename_i x hx
  have hne:v≠[]:=fun e=>by rw[e]at hx;cases hx
  split
  ·simp
   (try(have:=List.length_pos_iff.2 hne;omega))
  ·simp
 ·simp
theorem zeQ (o:List zap)(x:zap):za9 (o++[x])=zcI (za9 o) x:=by simp[za9,List.foldl_append]
end Go.Proofs.YteocfhdocpeokaaGreat
namespace Go.Proofs.YteocfhdocpeokaaGreat
open Go Go.Sl
attribute [local irreducible] AW ES EP Ld RetQ
set_option maxRecDepth 100000
def za2 (p:Nat)(A:Option Addr)(c:Nat)(l:List zap)(F:List zao):List zao:=
 .blk p 152 [.slice A l.length c]::.own A l.length c 168 6 (l.flatMap zap.enc)::F
theorem zbz {x y:zao}{h:List zao}(hx:x∈h)(hy:y∈h):∀c∈[x,y],c∈h:=fun c hc=>by
 rcases List.mem_cons.1 hc with rfl|hc
 ·exact hx
 ·rw[lms.1 hc];exact hy
theorem zgl (W:World)(h:List zao):zax Tryz.prog W 52 [] h (fun v h'=>∃p A c,v=.pointer (some ⟨p,0,none⟩)∧h'=za2 p A c [] h):=by
 refine zax.conv (R:=fun v h'=>∃p,v=.pointer (some ⟨p,0,none⟩)∧h'=.blk p 152 [.slice none 0 0]::h) ?_ ?_
 ·refine zaf Tryz.func52 rfl rfl Tryz.results52 Tryz.ntmps52 rfl rfl ?_
  repeat' (first|apply zah|apply zaa|apply zak|apply zag|apply zac hT;iterate 4 exact rfl|apply zb8 hT;iterate 4 exact rfl|apply zaA;(iterate 5 exact rfl);intro _)
  apply ret1;exact rfl
  exact⟨_,rfl,rfl⟩
 ·rintro v h' ⟨p,rfl,rfl⟩ w hw
  exact⟨_,(hw.own_nil 168 6).perm sel1,p,none,0,rfl,rfl⟩
theorem zdx (W:World)(s:Int):zaw Tryz.prog W 101 [.int .i64 s] [] (.bool (isB s)):=by
 refine zaw.ofD (fun h' hs=> ?_)
 refine zaf Tryz.func101 rfl rfl Tryz.results101 Tryz.ntmps101 rfl rfl ?_
 repeat' (first|apply zah|apply zaa|apply zak|apply zag|apply zac hT;iterate 4 exact rfl|apply zaK;iterate 3 exact rfl|(apply zaH;exact rfl;all_goals(intro hb;(try simp only[hb]);(first|replace hb:=odt hb|replace hb:=odf hb);(try omega))))
 all_goals
  apply ret1;exact rfl
  refine⟨?_,zaX⟩
  simp[isB, *]
theorem zgK (W:World)(s a b:Int):zaw Tryz.prog W 168 [.int .i64 s,.int .i64 a,.int .i64 b] [] (.bool (zbG s a b)):=by
 refine zaw.ofD (fun h' hs=> ?_)
 refine zaf Tryz.func168 rfl rfl Tryz.results168 Tryz.ntmps168 rfl rfl ?_
 repeat' (first|apply zah|apply zaa|apply zak|apply zag|apply zac hT;iterate 4 exact rfl|apply zaK;iterate 3 exact rfl|(apply zaH;exact rfl;all_goals(intro hb;(try simp only[hb]);(first|replace hb:=odt hb|replace hb:=odf hb);(try omega))))
 all_goals
  apply ret1;exact rfl
  refine⟨?_,zaX⟩
  simp[zbG, *]
def okO (o:zap):Bool:=decide (o.id≥1)&&decide (o.seq≥1)&&decide (o.price≥1)&&decide (o.price≤1000000)&&decide (o.left≥1)&&decide (o.left≤1000000)&&decide (o.owner≥0)&&isB o.side
theorem zjo (W:World)(o:zap):zaw Tryz.prog W 243 [.agg o.enc.toArray] [] (.bool (okO o)):=by
 refine zaw.ofD (fun h' hs=> ?_)
 refine zaf Tryz.func243 rfl rfl Tryz.results243 Tryz.ntmps243 rfl rfl ?_
 repeat' (first|apply zah|apply zaa|apply zak|apply zag|apply zac hT;iterate 4 exact rfl|apply zaK;iterate 3 exact rfl|(apply zab (hs:=((zdx W _).mono (by simp)));iterate 7 exact rfl)|(apply zad;(iterate 5 exact rfl);first|exact zaq hT rfl rfl mem0 rfl rfl)|apply zaA;(iterate 5 exact rfl);intro _|(apply zaH;exact rfl;all_goals(intro hb;(try simp only[hb]);(first|replace hb:=odt hb|replace hb:=odf hb);(try omega))))
 all_goals
  apply ret1;exact rfl
  refine⟨?_,za5 zaX⟩
  simp[okO, *]
def hasO (id:Int)(o:zap):Bool:=o.id==id
theorem zl3 (W:World)(o:zap)(g1:Nat)(id:Int):zaw Tryz.prog W 170 [.agg o.enc.toArray,.pointer (some ⟨g1,0,none⟩)] [.blk g1 2 [.int .i64 id]] (.bool (hasO id o)):=by
 refine zaw.ofD (fun h' hs=> ?_)
 have m1:=hs _ mem0
 refine zaf Tryz.func170 rfl rfl Tryz.results170 Tryz.ntmps170 rfl rfl ?_
 repeat' (first|apply zah|apply zaa|apply zak|apply zag|apply zac hT;iterate 4 exact rfl|(apply zad;(iterate 5 exact rfl);first|exact zaq hT rfl rfl mem0 rfl rfl)|(apply zad;(iterate 5 exact rfl);first|exact zaq hT rfl rfl (mcm _ m1) rfl rfl)|apply zaA;(iterate 5 exact rfl);intro _)
 apply ret1;exact rfl
 exact⟨rfl,za5 zaX⟩
theorem zgL (W:World)(p:Nat)(A:Option Addr)(c:Nat)(l:List zap)(id:Int)(hb:l.length≤1000000):
 zaw Tryz.prog W 126 [.pointer (some ⟨p,0,none⟩),.int .i64 id] (za2 p A c l []) (.int .i64 (zaT (hasO id) l)):=by
 refine zaw.ofD (fun h' hs=> ?_)
 have m1:=hs _ mem0
 have m2:=hs _ mem1
 refine zaf Tryz.func126 rfl rfl Tryz.results126 Tryz.ntmps126 rfl rfl ?_
 refine zbi m2 (fun hl hnc hcc hsome hnone hone=> ?_)
 have hr:=zaz.own (W:=W) m2 hl hone
 have hq:∀g1,zaw Tryz.prog W 169 [.slice A l.length c,.func (.func 170) #[] #[.pointer (some ⟨g1,0,none⟩)]] (.blk g1 2 [.int .i64 id]::h') (.int .i64 (zaT (hasO id) l)):=fun g1=>
  zdw W _ A _ c l rfl hr.cons _ [_] (hasO id) (fun x _=>(zl3 W x g1 id).mono (by intro c hc;simp only[List.mem_cons,List.not_mem_nil,or_false]at hc;rcases hc with rfl;simp)) (by omega)
 repeat' (first|apply zah|apply zaa|apply zak|apply zam|apply zag|apply zac hT;iterate 4 exact rfl|apply zab (hs:=(hq _));iterate 7 exact rfl|(apply zad;(iterate 5 exact rfl);first|exact zaq hT rfl rfl (mcm _ m1) rfl rfl)|apply zaA;(iterate 5 exact rfl);intro _|apply zan;iterate 2 exact rfl)
 apply ret1;exact rfl
 exact⟨rfl,za5 zaX⟩
theorem zo8 (W:World)(p:Nat)(A:Option Addr)(c:Nat)(l:List zap):
 zaw Tryz.prog W 239 [.pointer (some ⟨p,0,none⟩)] (za2 p A c l []) (.int .i64 l.length):=by
 refine zaw.ofD (fun h' hs=> ?_)
 have m1:=hs _ mem0
 refine zaf Tryz.func239 rfl rfl Tryz.results239 Tryz.ntmps239 rfl rfl ?_
 repeat' (first|apply zah|apply zaa|apply zak|apply zam|apply zag|apply zac hT;iterate 4 exact rfl|(apply zad;(iterate 5 exact rfl);first|exact zaq hT rfl rfl m1 rfl rfl)|apply zan;iterate 2 exact rfl)
 apply ret1;exact rfl
 exact⟨rfl,zaX⟩
/-! ### Add -/
def zbj (o x:zap):Bool:=x.id==o.id||x.seq==o.seq
theorem znf (W:World)(x o:zap)(g1:Nat):zaw Tryz.prog W 245 [.agg x.enc.toArray,.pointer (some ⟨g1,0,none⟩)] [.blk g1 168 o.enc] (.bool (zbj o x)):=by
 refine zaw.ofD (fun h' hs=> ?_)
 have m1:=hs _ mem0
 refine zaf Tryz.func245 rfl rfl Tryz.results245 Tryz.ntmps245 rfl rfl ?_
 repeat' (first|apply zah|apply zaa|apply zak|apply zag|apply zac hT;iterate 4 exact rfl|apply zaK;iterate 3 exact rfl|(apply zad;(iterate 5 exact rfl);first|exact zaq hT rfl rfl mem0 rfl rfl)|(apply zad;(iterate 5 exact rfl);first|exact zaq hT rfl rfl (mcm _ m1) rfl rfl)|apply zaA;(iterate 5 exact rfl);intro _|(apply zaH;exact rfl;all_goals(intro hb;(try simp only[hb]);(first|replace hb:=odt hb|replace hb:=odf hb);(try omega))))
 all_goals
  apply ret1;exact rfl
  refine⟨?_,za5 zaX⟩
  simp[zbj, *]
def zeR (o:zap)(l:List zap):Int:=if okO o=false∨zaT (zbj o) l≥0 then 1 else if l.length≥64 then 3 else 0
def addO (o:zap)(l:List zap):List zap:=if zeR o l=0 then l++[o]else l
theorem zgm (W:World)(F:List zao)(p:Nat)(A:Option Addr)(c:Nat)(l:List zap)(o:zap)(hb:l.length≤1000000):
 zax Tryz.prog W 229 [.pointer (some ⟨p,0,none⟩),.agg o.enc.toArray] (za2 p A c l F) (fun v h'=>v=.int .i64 (zeR o l)∧∃A' c',h'=za2 p A' c' (addO o l) F):=by
 refine zax.dropTo ?_
 refine zaf Tryz.func229 rfl rfl Tryz.results229 Tryz.ntmps229 rfl rfl ?_
 refine zbi (h:=za2 p A c l F) mem1 (fun hl hnc hcc hsome hnone hone=> ?_)
 have hq:∀g1,zaw Tryz.prog W 244 [.slice A l.length c,.func (.func 245) #[] #[.pointer (some ⟨g1,0,none⟩)]] (.blk g1 168 o.enc::za2 p A c l F) (.bool (decide (zaT (zbj o) l≥0))):=fun g1=>
  zdF W _ A _ c l rfl (zaz.own mem2 hl hone) _ [_] (zbj o) (fun x _=>(znf W x o g1).mono (by intro c hc;simp only[List.mem_cons,List.not_mem_nil,or_false]at hc;rcases hc with rfl;simp)) (by omega)
 have hok:∀h,zaw Tryz.prog W 243 [.agg o.enc.toArray] h (.bool (okO o)):=fun h=>(zjo W o).mono (by simp)
 cases hO:okO o
 ·rw[hO]at hok
  have hE:zeR o l=1:=by simp[zeR,hO]
  repeat' (first|apply zah|apply zaa|apply zak|apply zag|apply zac hT;iterate 4 exact rfl|apply zaK;iterate 3 exact rfl|apply zab (hs:=(hok _));iterate 7 exact rfl|(apply zad;(iterate 5 exact rfl);first|exact zaF hT rfl rfl mem0 rfl)|apply zaA;(iterate 5 exact rfl);intro _|apply zas;iterate 2 exact rfl)
  apply ret1;exact rfl
  exact⟨za2 p A c l F,za5 zaX,by rw[hE],A,c,by simp[addO,hE]⟩
 ·rw[hO]at hok
  by_cases hI:zaT (zbj o) l≥0
  ·have hE:zeR o l=1:=by simp[zeR,hI]
   rw[decide_eq_true hI]at hq
   repeat' (first|apply zah|apply zaa|apply zak|apply zag|apply zac hT;iterate 4 exact rfl|apply zab (hs:=(hok _));iterate 7 exact rfl|apply zab (hs:=(hq _));iterate 7 exact rfl|(apply zad;(iterate 5 exact rfl);first|exact zaF hT rfl rfl mem0 rfl)|(apply zad;(iterate 5 exact rfl);first|exact zaq hT rfl rfl mem1 rfl rfl)|apply zaA;(iterate 5 exact rfl);intro _|apply zas;iterate 2 exact rfl)
   apply ret1;exact rfl
   exact⟨za2 p A c l F,za5 zaX,by rw[hE],A,c,by simp[addO,hE]⟩
  ·rw[decide_eq_false hI]at hq
   by_cases hM:l.length≥64
   ·have hE:zeR o l=3:=by simp[zeR,hO,hI,hM]
    have hd:decide (((l.length:Nat):Int)≥64)=true:=by simp;omega
    repeat' (first|apply zah|apply zaa|apply zak|apply zam|apply zag|apply zac hT;iterate 4 exact rfl|apply zab (hs:=(hok _));iterate 7 exact rfl|apply zab (hs:=(hq _));iterate 7 exact rfl|(apply zad;(iterate 5 exact rfl);first|exact zaF hT rfl rfl mem0 rfl)|(apply zad;(iterate 5 exact rfl);first|exact zaq hT rfl rfl mem1 rfl rfl)|apply zaA;(iterate 5 exact rfl);intro _|apply zan;iterate 2 exact rfl|(apply zal;exact rfl;all_goals(intro hb;(try simp only[hb]);(first|replace hb:=odt hb|replace hb:=odf hb);(try omega))))
    apply ret1;exact rfl
    exact⟨za2 p A c l F,za5 zaX,by rw[hE],A,c,by simp[addO,hE]⟩
   ·have hE:zeR o l=0:=by simp[zeR,hO,hI,hM]
    have hA:addO o l=l++[o]:=by simp[addO,hE]
    have hd:decide (((l.length:Nat):Int)≥64)=false:=by simp;omega
    repeat' (first|apply zah|apply zaa|apply zak|apply zam|apply zag|apply zac hT;iterate 4 exact rfl|apply zaC [] [] hmix;decide+kernel|apply zab (hs:=(hok _));iterate 7 exact rfl|apply zab (hs:=(hq _));iterate 7 exact rfl|apply zaB hT;(iterate 12 exact rfl);intro g|(apply zbb hT;(iterate 10 exact rfl);(first|exact selS (selS sel1));exact zaz.own mem0 rfl (zap.enc_one o);omega;(show(_:Nat)*48≤_;omega);intro A' c')|(apply zar hT;(iterate 6 exact rfl);(first|exact selS (selS sel1));(iterate 3 exact rfl);exact nle rfl)|(apply zad;(iterate 5 exact rfl);first|exact zaF hT rfl rfl mem0 rfl)|(apply zad;(iterate 5 exact rfl);first|exact zaq hT rfl rfl mem1 rfl rfl)|apply zaA;(iterate 5 exact rfl);intro _|apply zan;iterate 2 exact rfl|(apply zal;exact rfl;all_goals(intro hb;(try simp only[hb]);(first|replace hb:=odt hb|replace hb:=odf hb);(try omega))))
    apply ret1;exact rfl
    refine⟨za2 p A' c' (addO o l) F,?_,by rw[hE],A',c',rfl⟩
    rw[hA,za2,lla,List.flatMap_append]
    apply zaQ;(first|exact sel0)
    apply zaQ;(first|exact sel0)
    exact dX
/-! ### Get, Drop, Less -/
def zsU :zap:=⟨0,0,0,0,0,0⟩
def gotO :Option zap→Value
 |some x=>.tuple #[.agg x.enc.toArray,.bool true]
 |none=>.tuple #[.agg zsU.enc.toArray,.bool false]
def getO (id:Int)(l:List zap):Option zap:=l.find? (hasO id)
theorem zc3 {α:Type}{p:α→Bool}(r:List α):(zaT p r= -1∧r.find? p=none)∨(∃(i:Nat) (x:α),zaT p r=i∧r[i]? =some x∧p x=true∧r.find? p=some x):=by
 by_cases h:zaT p r<0
 ·left
  have:=ziA (p:=p) (l:=r)
  refine⟨by omega,?_⟩
  rw[List.find?_eq_none]
  intro x hx
  have:=zbV.1 h x hx
  simp[this]
 ·right
  obtain⟨i,hi⟩:=Int.eq_ofNat_of_zero_le (show 0≤zaT p r by omega)
  obtain⟨x,hx,hp,hb⟩:=zeO (p:=p) (l:=r) (i:=i) hi
  refine⟨i,x,hi,hx,hp,?_⟩
  rw[List.find?_eq_some_iff_getElem]
  obtain⟨hlt,hxe⟩:=gsi.1 hx
  refine⟨hp,i,hlt,hxe,fun j hj=> ?_⟩
  have:=hb j r[j] hj (gge (by omega))
  simp[this]
theorem zlh (W:World)(p:Nat)(A:Option Addr)(c:Nat)(l:List zap)(id:Int)(hb:l.length≤1000000):
 zaw Tryz.prog W 141 [.pointer (some ⟨p,0,none⟩),.int .i64 id] (za2 p A c l []) (gotO (getO id l)):=by
 refine zaw.ofD (fun h' hs=> ?_)
 have m1:=hs _ mem0
 have m2:=hs _ mem1
 refine zaf Tryz.func141 rfl rfl Tryz.results141 Tryz.ntmps141 rfl rfl ?_
 refine zbi m2 (fun hl hnc hcc hsome hnone hone=> ?_)
 have hr:=zaz.own (W:=W) m2 hl hone
 have hfind:=(zgL W p A c l id hb).mono (h':=h') hs
 unfold getO
 rcases zc3 (p:=hasO id) l with ⟨hi,hf⟩|⟨i,x,hi,hx,hp,hf⟩
 ·rw[hi]at hfind
  rw[hf]
  repeat' (first|apply zah|apply zaa|apply zak|apply zag|apply zac hT;iterate 4 exact rfl|apply zay hT;(iterate 5 exact rfl);intro g4|apply zab (hs:=(hfind.mono (fun c hc=>.tail _ hc)));iterate 7 exact rfl|apply zb8 hT;iterate 4 exact rfl|(apply zar hT;(iterate 6 exact rfl);(first|exact sel0);(iterate 3 exact rfl);exact nle rfl)|apply zas;iterate 2 exact rfl)
  all_goals first
   |(apply zeE;exact rfl;exact zaF hT rfl rfl mem0 rfl;exact rfl;exact⟨rfl,za5 zaX⟩)
   |(exfalso;omega)
 ·have hlt:=(gsi.1 hx).1
  rw[hi]at hfind
  rw[hf]
  obtain⟨g,hA⟩:=hsome (by omega)
  have hA2:A.isSome=true:=by rw[hA];rfl
  have hx2:l[((i:Nat):Int).toNat]? =some x:=by simpa using hx
  repeat' (first|apply zah|apply zaa|apply zak|apply zam|apply zag|apply zac hT;iterate 4 exact rfl|apply zay hT;(iterate 5 exact rfl);intro g4|apply zab (hs:=(hfind.mono (fun c hc=>.tail _ hc)));iterate 7 exact rfl|apply zaJ hT;(iterate 8 exact rfl);(iterate 2 omega);exact hA2|apply zad;(iterate 5 exact rfl);exact zaO hT rfl rfl hr.cons zap.enc_len rfl hx2 rfl|(apply zar hT;(iterate 6 exact rfl);(first|exact sel0);(iterate 3 exact rfl);exact nle rfl)|(apply zad;(iterate 5 exact rfl);first|exact zaq hT rfl rfl (mcm _ m1) rfl rfl)|apply zan;iterate 2 exact rfl)
  all_goals first
   |(apply zeE;exact rfl;exact zaF hT rfl rfl mem0 rfl;exact rfl;exact⟨rfl,za5 zaX⟩)
   |(exfalso;omega)
def zbf (id:Int)(l:List zap):List zap:=if zaT (hasO id) l<0 then l else l.take (zaT (hasO id) l).toNat++l.drop ((zaT (hasO id) l).toNat+1)
theorem zfk (W:World)(F:List zao)(p:Nat)(A:Option Addr)(c:Nat)(l:List zap)(id:Int)(hb:l.length≤1000000):
 zax Tryz.prog W 83 [.pointer (some ⟨p,0,none⟩),.int .i64 id] (za2 p A c l F) (fun v h'=>v=gotO (getO id l)∧∃A' c',h'=za2 p A' c' (zbf id l) F):=by
 refine zax.dropTo ?_
 refine zaf Tryz.func83 rfl rfl Tryz.results83 Tryz.ntmps83 rfl rfl ?_
 refine zbi (h:=za2 p A c l F) mem1 (fun hl hnc hcc hsome hnone hone=> ?_)
 have hr:zaz W (za2 p A c l F) A l.length 6 (l.flatMap zap.enc):=zaz.own mem1 hl hone
 have hfind:=(zgL W p A c l id hb).mono (h':=za2 p A c l F) (zbz mem0 mem1)
 unfold getO zbf
 rcases zc3 (p:=hasO id) l with ⟨hi,hf⟩|⟨i,x,hi,hx,hp,hf⟩
 ·rw[hi]at hfind ⊢
  rw[hf]
  repeat' (first|apply zah|apply zaa|apply zak|apply zag|apply zac hT;iterate 4 exact rfl|apply zay hT;(iterate 5 exact rfl);intro g4|apply zab (hs:=(hfind.mono (fun c hc=>.tail _ hc)));iterate 7 exact rfl|apply zb8 hT;iterate 4 exact rfl|(apply zar hT;(iterate 6 exact rfl);(first|exact sel0);(iterate 3 exact rfl);exact nle rfl)|apply zas;iterate 2 exact rfl)
  all_goals first
   |(apply zeE;exact rfl;exact zaF hT rfl rfl mem0 rfl;exact rfl;exact⟨za2 p A c l F,za5 zaX,rfl,A,c,rfl⟩)
   |(exfalso;omega)
 ·have hlt:=(gsi.1 hx).1
  rw[hi]at hfind ⊢
  rw[hf]
  obtain⟨g,hA⟩:=hsome (by omega)
  have hA2:A.isSome=true:=by rw[hA];rfl
  have hx2:l[((i:Nat):Int).toNat]? =some x:=by simpa using hx
  have hni:¬((i:Nat):Int)<0:=by omega
  have hdel:∀X Y,zax Tryz.prog W 127 [.slice A l.length c,.int .i64 i,.int .i64 (i+1)] (X::Y::za2 p A c l F) _:=fun X Y=>
   (zkr W (X::Y::.blk p 152 [.slice A l.length c]::F) A l.length c i (i+1) (l.flatMap zap.enc) (by omega) (by omega) (by omega)).perm (selS (selS (selS sel0)))
  have hlen:(l.take i++l.drop (i+1)).length=l.length - (((i:Nat):Int)+1).toNat+((i:Nat):Int).toNat:=by simp;omega
  have hcs:(l.flatMap zap.enc).take (((i:Nat):Int).toNat*6)++(l.flatMap zap.enc).drop ((((i:Nat):Int)+1).toNat*6)=(l.take i++l.drop (i+1)).flatMap zap.enc:=by
   rw[show(((i:Nat):Int)+1).toNat=i+1 by omega,Int.toNat_natCast,zci zap.enc_len,zde zap.enc_len,List.flatMap_append]
  have hln:l.length - ((((i:Nat):Int)+1).toNat - ((i:Nat):Int).toNat)=(l.take i++l.drop (i+1)).length:=by simp;omega
  rw[if_neg hni,Int.toNat_natCast]
  repeat' (first|apply zah|apply zaa|apply zak|apply zam|apply zag|apply zac hT;iterate 4 exact rfl|apply zaM hT;(iterate 4 exact rfl);(iterate 2 omega)|apply zay hT;(iterate 5 exact rfl);intro g4|apply zab (hs:=(hfind.mono (fun c hc=>.tail _ hc)));iterate 7 exact rfl|apply zaJ hT;(iterate 8 exact rfl);(iterate 2 omega);exact hA2|(apply zad;(iterate 5 exact rfl);first|exact zaO hT rfl rfl hr.cons zap.enc_len rfl hx2 rfl|exact zaF hT rfl rfl mem2 rfl)|apply zau (hs:=(hdel _ _));(iterate 7 exact rfl);rintro _ _ ⟨rfl,rfl⟩|(apply zar hT;(iterate 6 exact rfl);(first|exact sel0|exact selS (selS sel1));(iterate 3 exact rfl);exact nle rfl)|(apply zad;(iterate 5 exact rfl);first|exact zaq hT rfl rfl mem1 rfl rfl)|(apply zad;(iterate 5 exact rfl);first|exact zaq hT rfl rfl mem2 rfl rfl)|apply zan;iterate 2 exact rfl)
  all_goals first
   |(exfalso;omega)
   |(apply zeE;exact rfl;exact zaF hT rfl rfl mem0 rfl;exact rfl
     refine⟨za2 p A c (l.take i++l.drop (i+1)) F,?_,rfl,A,c,rfl⟩
     rw[za2,←hln,←hcs]
     apply zaQ;(first|exact sel1)
     apply zaQ;(first|exact sel1)
     exact dX)
def zdp (id left:Int)(l:List zap):Int:=match getO id l with
 |none=>4
 |some x=>if left<1∨left>x.left then 1 else 0
def zb2 (id left:Int)(l:List zap):List zap:=match getO id l with
 |none=>l
 |some x=>if zdp id left l=0 then l.set (zaT (hasO id) l).toNat {x with left:=left}else l
theorem zjp (W:World)(F:List zao)(p:Nat)(A:Option Addr)(c:Nat)(l:List zap)(id left:Int)(hb:l.length≤1000000):
 zax Tryz.prog W 177 [.pointer (some ⟨p,0,none⟩),.int .i64 id,.int .i64 left] (za2 p A c l F) (fun v h'=>v=.int .i64 (zdp id left l)∧h'=za2 p A c (zb2 id left l) F):=by
 refine zax.dropTo ?_
 refine zaf Tryz.func177 rfl rfl Tryz.results177 Tryz.ntmps177 rfl rfl ?_
 refine zbi (h:=za2 p A c l F) mem1 (fun hl hnc hcc hsome hnone hone=> ?_)
 have hr:zaz W (za2 p A c l F) A l.length 6 (l.flatMap zap.enc):=zaz.own mem1 hl hone
 have hfind:=(zgL W p A c l id hb).mono (h':=za2 p A c l F) (zbz mem0 mem1)
 rcases zc3 (p:=hasO id) l with ⟨hi,hf⟩|⟨i,x,hi,hx,hp,hf⟩
 ·have hE:zdp id left l=4:=by simp[zdp,getO,hf]
  have hL:zb2 id left l=l:=by simp[zb2,getO,hf]
  rw[hi]at hfind
  repeat' (first|apply zah|apply zaa|apply zak|apply zam|apply zaj|apply zag|apply zac hT;iterate 4 exact rfl|apply zab (hs:=hfind);iterate 7 exact rfl|apply zas;iterate 2 exact rfl|apply zan;iterate 2 exact rfl)
  all_goals first
   |(exfalso;omega)
   |(apply ret1;exact rfl;exact⟨_,zaX,by rw[hE],by rw[hL]⟩)
 ·have hlt:=(gsi.1 hx).1
  have hg:getO id l=some x:=hf
  rw[hi]at hfind
  obtain⟨g,hA⟩:=hsome (by omega)
  have hA2:A.isSome=true:=by rw[hA];rfl
  have hx2:l[((i:Nat):Int).toNat]? =some x:=by simpa using hx
  have hlay:lay (l.flatMap zap.enc) (((i:Nat):Int).toNat*6+5) [.int .i64 left]=(l.set i {x with left:=left}).flatMap zap.enc:=by
   rw[Int.toNat_natCast,zbQ zap.enc_len (x':={x with left:=left}) hx (Nat.le_of_ble_eq_true rfl) rfl]
  by_cases hbad:left<1∨left>x.left
  ·have hE:zdp id left l=1:=by simp[zdp,hg,hbad]
   have hL:zb2 id left l=l:=by simp[zb2,hg,hE]
   repeat' (first|apply zah|apply zaa|apply zak|apply zam|apply zaj|apply zag|apply zac hT;iterate 4 exact rfl|apply zaK;iterate 3 exact rfl|apply zab (hs:=hfind);iterate 7 exact rfl|apply zaJ hT;(iterate 8 exact rfl);(iterate 2 omega);exact hA2|(apply zad;(iterate 5 exact rfl);exact zbx hT rfl rfl hr zap.enc_len (za4 _ _ _) hx2 (by decide) rfl)|(apply zad;(iterate 5 exact rfl);first|exact zaq hT rfl rfl mem0 rfl rfl)|apply zas;iterate 2 exact rfl|apply zan;iterate 2 exact rfl|(apply zaH;exact rfl;all_goals(intro hb;(try simp only[hb]);(first|replace hb:=odt hb|replace hb:=odf hb);(try omega)))|(apply zal;exact rfl;all_goals(intro hb;(try simp only[hb]);(first|replace hb:=odt hb|replace hb:=odf hb);(try omega))))
   all_goals first
    |(exfalso;omega)
    |(apply ret1;exact rfl;exact⟨_,zaX,by rw[hE],by rw[hL]⟩)
  ·have hE:zdp id left l=0:=by simp[zdp,hg,hbad]
   have hL:zb2 id left l=l.set i {x with left:=left}:=by simp[zb2,hg,hE,hi]
   repeat' (first|apply zah|apply zaa|apply zak|apply zam|apply zaj|apply zag|apply zac hT;iterate 4 exact rfl|apply zab (hs:=hfind);iterate 7 exact rfl|apply zaJ hT;(iterate 8 exact rfl);(iterate 2 omega);exact hA2|(apply zad;(iterate 5 exact rfl);exact zbx hT rfl rfl hr zap.enc_len (za4 _ _ _) hx2 (by decide) rfl)|(apply zbn hT;(iterate 6 exact rfl);(first|exact sel1);exact za4 _ _ _;exact rfl;exact rfl;(show(((i:Nat):Int).toNat*6+5)+1≤l.length*6;omega);omega)|(apply zad;(iterate 5 exact rfl);first|exact zaq hT rfl rfl mem0 rfl rfl)|apply zan;iterate 2 exact rfl|(apply zaH;exact rfl;all_goals(intro hb;(try simp only[hb]);(first|replace hb:=odt hb|replace hb:=odf hb);(try omega)))|(apply zal;exact rfl;all_goals(intro hb;(try simp only[hb]);(first|replace hb:=odt hb|replace hb:=odf hb);(try omega))))
   all_goals first
    |(exfalso;omega)
    |(apply ret1;exact rfl
      refine⟨za2 p A c (zb2 id left l) F,?_,by rw[hE],rfl⟩
      rw[hL,za2,←hlay,List.length_set]
      apply zaQ;(first|exact sel1)
      apply zaQ;(first|exact sel0)
      exact dX)
theorem zjq (W:World)(s:Int):zaw Tryz.prog W 82 [.pointer none,.int .i64 s] [] (.slice none 0 0):=by
 refine zaw.ofD (fun h' hs=> ?_)
 refine zaf Tryz.func82 rfl rfl Tryz.results82 Tryz.ntmps82 rfl rfl ?_
 repeat' (first|apply zah|apply zaa|apply zak|apply zag|apply zac hT;iterate 4 exact rfl|apply zas;iterate 2 exact rfl)
 apply ret1;exact rfl
 exact⟨rfl,dX⟩
end Go.Proofs.YteocfhdocpeokaaGreat
namespace Go.Sl
open Go Go.RowKit Go.Sort Go.Proofs Go.Shelf
theorem zhU {α:Type}[Inhabited α]{enc:α→List Value}{k:Nat}(hk:∀x,(enc x).length=k)(d:Array α):(flatK enc k d).toList=d.toList.flatMap enc:=by
 apply List.ext_getElem?
 intro t
 have hl:=zda (enc:=enc) hk d.toList
 by_cases ht:t<d.size*k
 ·have k0:0<k:=by
   rcases Nat.eq_zero_or_pos k with h|h
   ·subst h;simp at ht
   ·exact h
  have hi:t / k<d.size:=(Nat.div_lt_iff_lt_mul k0).2 ht
  have hx:d.toList[t / k]? =some d[t / k]! :=by
   rw[Array.getElem?_toList,getElem!_pos d _ hi];simp[hi]
  have e:=zgz hk d.toList (t / k) (t%k) _ hx (Nat.mod_lt _ k0)
  rw[Nat.div_add_mod' t k]at e
  rw[e]
  have h1:=get_flatK enc k d t ht
  have hs:t<(flatK enc k d).size:=by simpa using ht
  rw[Array.getElem?_toList,Array.getElem?_eq_getElem hs,←getElem!_pos _ t hs,h1]
  have hm:t%k<(enc d[t / k]!).length:=by rw[hk];exact Nat.mod_lt _ k0
  rw[gge hm,getElem!_pos (enc d[t / k]!) (t%k) hm]
 ·rw[List.getElem?_eq_none (by simp;omega),List.getElem?_eq_none (by rw[hl];simp;omega)]
theorem zkt {α:Type}[Inhabited α]{d d':Array α}(h:PermIn 0 d.size d d'):d'.toList.Perm d.toList:=by
 obtain⟨h1,_,h3⟩:=h
 have e1:d'.extract 0 d.size=d':=by rw[←h1];simp
 have e2:d.extract 0 d.size=d:=by simp
 rw[e1,e2]at h3
 exact h3
theorem ziD {α:Type}[Inhabited α]{lt:α→α→Bool}{d':Array α}{n:Nat}(h:SortedIn lt 0 n d')(hn:d'.size=n):d'.toList.Pairwise fun a b=>lt b a=false:=by
 rw[List.pairwise_iff_getElem]
 intro i j hi hj hij
 have hj':j<d'.size:=by simpa using hj
 have:=h i j (Nat.zero_le _) hij (by omega)
 rw[getElem!_pos d' j hj',getElem!_pos d' i (by omega)]at this
 simpa using this
section
variable {P : Program} {W w : World} {F : List zao} {α : Type} [Inhabited α] {enc : α → List Value} {k : Nat}
theorem zng {g m:Nat}{os:Array Obj}{cur:Array Value}{t:TypeId}{fr:Nat×Nat}(d:Array α)(hb:w.heap[g]? =some (.cells cur t fr)):
 (sortWorldK enc k w g 0 m d os).heap[g]? =some (.cells (putCells id 0 (flatK enc k d) cur) t fr):=by
 have hg:g<w.heap.size:=(Array.getElem?_eq_some_iff.1 hb).1
 unfold sortWorldK putRowK
 rw[Go.Sort.heap_grow_old _ _ (by simpa using hg)]
 simp[putRow,mapBlock,Sort.ahead,Array.getElem?_modify,hb,onCells]
theorem zjr {g m:Nat}{os:Array Obj}(d:Array α):w.grownBy (sortWorldK enc k w g 0 m d os) (some g):=by
 unfold sortWorldK putRowK
 refine⟨rfl,rfl,rfl,by simp,fun j hj hne=> ?_⟩
 rw[Go.Sort.heap_grow_old _ _ (by simpa using hj)]
 have:g≠j:=fun e=>hne (by rw[e])
 simp[putRow,mapBlock,Sort.ahead,Array.getElem?_modify,this]
theorem zo9 {g n c m:Nat}{t:TypeId}{os:Array Obj}{l:List α}(hk:∀x,(enc x).length=k)(h1:∀x,∀v∈enc x,v.oneCell'=true)(hn:l.length=n)(hw:Rep W (.own (some ⟨g,0,none⟩) n c t k (l.flatMap enc)::F) w)(d':Array α)(hd:d'.size=n):
 Rep W (.own (some ⟨g,0,none⟩) n c t k (d'.toList.flatMap enc)::F) (sortWorldK enc k w g 0 m d' os):=by
 have ho:=hw.holds _ mem0
 rcases ho.1.2 with ⟨hv,_⟩|⟨g',cap,cur,hv,hbb,hgb,hnc,hcm,hcs,htk⟩
 ·cases hv
 ·injection hv with hA _ hc
  injection hA with hA
  injection hA with hA _ _
  subst hA hc
  have hlen:(d'.toList.flatMap enc).length=n*k:=by rw[zda hk];simp[hd]
  have hle:n*k≤cur.size:=by rw[hcs];exact Nat.mul_le_mul_right k hnc
  refine hw.change (zjr d') (fun j e=>by simp[zao.keys];exact(Option.some.inj e).symm) ⟨⟨hlen,.inr ⟨g,c,_,rfl,hbb,zng d' hgb,hnc,hcm,by simp[putCells,hcs],?_⟩⟩,fun v hv=> ?_⟩ (fun j hj=>.inl (by simpa [zao.keys]using hj))
  ·rw[←zhU hk d']
   apply List.ext_getElem?
   intro j
   have hsz:(flatK enc k d').size=n*k:=by simp[hd]
   by_cases hj:j<n*k
   ·rw[List.getElem?_take_of_lt hj,Array.getElem?_toList,Array.getElem?_toList]
    have hjc:j<cur.size:=by omega
    have hjf:j<(flatK enc k d').size:=by omega
    simp[putCells,hjc,hjf]
    rw[if_pos (by rw[hd];exact hj),Array.getElem?_eq_getElem hjf,getElem!_pos _ j hjf]
   ·rw[List.getElem?_take_eq_none (by omega),List.getElem?_eq_none (by simp[hd];omega)]
  ·obtain⟨x,_,hx⟩:=List.mem_flatMap.1 hv
   exact h1 x v hx
theorem sort_holds {g n c:Nat}{t:TypeId}{l:List α}(hk:∀x,(enc x).length=k)(hn:l.length=n)(hw:Rep W (.own (some ⟨g,0,none⟩) n c t k (l.flatMap enc)::F) w):HoldsK enc k w g 0 l.toArray∧g<w.heap.size:=by
 have ho:=hw.holds _ mem0
 rcases ho.1.2 with ⟨hv,_⟩|⟨g',cap,cur,hv,hbb,hgb,hnc,hcm,hcs,htk⟩
 ·cases hv
 ·injection hv with hA _ hc
  injection hA with hA
  injection hA with hA _ _
  subst hA hc
  refine⟨fun j hj=> ?_,(Array.getElem?_eq_some_iff.1 hgb).1⟩
  have hj':j<n*k:=by simpa [hn]using hj
  refine⟨?_,by simp[World.frozen?,hgb]⟩
  have h2:(flatK enc k l.toArray).toList=l.flatMap enc:=by rw[zhU hk]
  have h3:(cur.toList.take (n*k))[j]? =((flatK enc k l.toArray).toList)[j]? :=by rw[htk,h2]
  rw[List.getElem?_take_of_lt hj',Array.getElem?_toList,Array.getElem?_toList]at h3
  simp only[World.cell?,hgb,Nat.zero_add,Option.isSome_none,Bool.false_eq_true,if_false]
  rw[h3,Array.getElem?_eq_getElem hj,getElem!_pos _ j hj]
  rfl
theorem zro {ρ:Ren}(L:SlLaysF0.n6 P ρ)(hf:zmP P (ρ.f 6))(aE:∀w,(isAgg (ρ.t 24)).run P w=.ok true w)(zE:∀w,(Go.sizeOf (ρ.t 24)).run P w=.ok k w)(hk:∀x,(enc x).length=k)(h1:∀x,∀v∈enc x,v.oneCell'=true)(cf:α→α→Int)(hO:SWO (ltOf cf))(g:Nat)
 (eg:∀args w,(callFunc g args).run P w=.ok (.enter g args) w) (hcmp:∀(x y:α) (W:World),Calls P g #[.agg (enc x).toArray,.agg (enc y).toArray] W fun e w'=>e=.returned (.int .i64 (cf x y))∧∃q os',w'=grow (W.drewN q) os')
 (A:Option Addr)(c:Nat)(t:TypeId)(l:List α)(hb:l.length≤1000000):
 zax P W (ρ.f 6) [.slice A l.length c,.func (.func g) #[] #[]] (.own A l.length c t k (l.flatMap enc)::F) (fun v h'=>v=.tuple #[]∧∃l':List α,l'.Perm l∧l'.Pairwise (fun a b=>ltOf cf b a=false)∧h'=.own A l'.length c t k (l'.flatMap enc)::F):=by
 refine⟨hf,fun w hw=> ?_⟩
 cases l with
 |nil=>exact(AnyF.slices_SortFunc_none L A c _ w).mono fun e w' ⟨he,hww⟩=>⟨_,_,he,⟨rfl,[],plr _,List.Pairwise.nil,rfl⟩,by rw[hww];exact hw⟩
 |cons x0 l0=>
  generalize hl:x0::l0=l at*
  have hpos:0<l.length:=by rw[←hl];simp
  obtain⟨g',hA⟩:=(hw.ownF mem0).at_ hpos
  subst hA
  obtain⟨hH,hblk⟩:=sort_holds hk rfl hw
  have hlays:CmpLays P g #[] enc k cf g' 0 l.toArray.size w:=fun m os dk _ x y=>by simpa using hcmp x y _
  have hcon:=AnyQ.slices_SortFunc L k aE zE enc hk h1 cf hO g #[] g' 0 c l.toArray w eg hlays hH hblk (by simp;omega)
  refine hcon.mono ?_
  rintro e w' ⟨rfl,d',n,os,hp,hs,rfl⟩
  have hd:d'.size=l.length:=by have:=hp.1;simpa using this
  refine⟨_,_,rfl,⟨rfl,d'.toList,by simpa using zkt hp,ziD hs (by simpa using hd),rfl⟩,?_⟩
  have:=zo9 (m:=n) (os:=os) hk h1 rfl hw d' hd
  simpa [hd]using this
end
end Go.Sl
namespace Go.Proofs.YteocfhdocpeokaaGreat
open Go.Shelf
def znh :Go.Shelf.Ren:=⟨fun|6=>124|15=>167|14=>166|28=>205|29=>206|20=>197|21=>198|22=>199|23=>200|24=>201|25=>202|26=>203|27=>204|46=>220|47=>221|48=>222|49=>223|50=>224|57=>237|n=>n,fun|22=>150|24=>168|25=>200|3=>3|39=>130|0=>0|53=>268|55=>73|4=>4|46=>262|45=>261|50=>194|5=>5|9=>9|66=>289|70=>292|76=>301|77=>302|n=>n,fun|n=>n⟩
theorem zsV :Go.Proofs.SlLaysF0.n6 Tryz.prog znh:={
 mixed:=by kernel_rfl
 f6:=⟨Tryz.f124.name,by decide,Tryz.func124.trans (congrArg some (by kernel_rfl))⟩
 f14:=⟨Tryz.f166.name,by decide,Tryz.func166.trans (congrArg some (by kernel_rfl))⟩
 f15:=Tryz.func167.trans (congrArg some (by kernel_rfl))
 f20:=⟨Tryz.f197.name,by decide,Tryz.func197.trans (congrArg some (by kernel_rfl))⟩
 f21:=⟨Tryz.f198.name,by decide,Tryz.func198.trans (congrArg some (by kernel_rfl))⟩
 f22:=⟨Tryz.f199.name,by decide,Tryz.func199.trans (congrArg some (by kernel_rfl))⟩
 f23:=⟨Tryz.f200.name,by decide,Tryz.func200.trans (congrArg some (by kernel_rfl))⟩
 f24:=⟨Tryz.f201.name,by decide,Tryz.func201.trans (congrArg some (by kernel_rfl))⟩
 f25:=⟨Tryz.f202.name,by decide,Tryz.func202.trans (congrArg some (by kernel_rfl))⟩
 f26:=⟨Tryz.f203.name,by decide,Tryz.func203.trans (congrArg some (by kernel_rfl))⟩
 f27:=⟨Tryz.f204.name,by decide,Tryz.func204.trans (congrArg some (by kernel_rfl))⟩
 f28:=Tryz.func205.trans (congrArg some (by kernel_rfl))
 f29:=Tryz.func206.trans (congrArg some (by kernel_rfl))
 f46:=⟨Tryz.f220.name,by decide,Tryz.func220.trans (congrArg some (by kernel_rfl))⟩
 f47:=Tryz.func221.trans (congrArg some (by kernel_rfl))
 f48:=Tryz.func222.trans (congrArg some (by kernel_rfl))
 f49:=⟨Tryz.f223.name,by decide,Tryz.func223.trans (congrArg some (by kernel_rfl))⟩
 f50:=⟨Tryz.f224.name,by decide,Tryz.func224.trans (congrArg some (by kernel_rfl))⟩
 f57:=⟨Tryz.f237.name,by decide,Tryz.func237.trans (congrArg some (by kernel_rfl))⟩
 t0:=Tryz.underlying0
 a0:=Tryz.isAgg0
 z0:=Tryz.sizeOf0
 v0:=Tryz.zeroValue0
 t3:=Tryz.underlying3
 a3:=Tryz.isAgg3
 z3:=Tryz.sizeOf3
 v3:=Tryz.zeroValue3
 t4:=Tryz.underlying4
 a4:=Tryz.isAgg4
 z4:=Tryz.sizeOf4
 v4:=Tryz.zeroValue4
 t5:=Tryz.underlying5
 a5:=Tryz.isAgg5
 z5:=Tryz.sizeOf5
 v5:=Tryz.zeroValue5
 t9:=Tryz.underlying9
 a9:=Tryz.isAgg9
 z9:=Tryz.sizeOf9
 v9:=Tryz.zeroValue9
 t22:=Tryz.underlying150
 a22:=Tryz.isAgg150
 z22:=Tryz.sizeOf150
 v22:=Tryz.zeroValue150
 t25:=Tryz.underlying200
 a25:=Tryz.isAgg200
 z25:=Tryz.sizeOf200
 v25:=Tryz.zeroValue200
 t39:=Tryz.underlying130
 a39:=Tryz.isAgg130
 z39:=Tryz.sizeOf130
 v39:=Tryz.zeroValue130
 t45:=Tryz.underlying261
 a45:=Tryz.isAgg261
 z45:=Tryz.sizeOf261
 v45:=Tryz.zeroValue261
 t46:=Tryz.underlying262
 a46:=Tryz.isAgg262
 z46:=Tryz.sizeOf262
 v46:=Tryz.zeroValue262
 t50:=Tryz.underlying194
 a50:=Tryz.isAgg194
 z50:=Tryz.sizeOf194
 v50:=Tryz.zeroValue194
 t53:=Tryz.underlying268
 a53:=Tryz.isAgg268
 z53:=Tryz.sizeOf268
 v53:=Tryz.zeroValue268
 t55:=Tryz.underlying73
 a55:=Tryz.isAgg73
 z55:=Tryz.sizeOf73
 v55:=Tryz.zeroValue73
 t66:=Tryz.underlying289
 a66:=Tryz.isAgg289
 z66:=Tryz.sizeOf289
 v66:=Tryz.zeroValue289
 t70:=Tryz.underlying292
 a70:=Tryz.isAgg292
 z70:=Tryz.sizeOf292
 v70:=Tryz.zeroValue292
 t76:=Tryz.underlying301
 a76:=Tryz.isAgg301
 z76:=Tryz.sizeOf301
 v76:=Tryz.zeroValue301
 t77:=Tryz.underlying302
 a77:=Tryz.isAgg302
 z77:=Tryz.sizeOf302
 v77:=Tryz.zeroValue302}
end Go.Proofs.YteocfhdocpeokaaGreat
namespace Go.Proofs.YteocfhdocpeokaaGreat
open Go Go.Sl Go.RowKit Go.Sort
theorem zqF (s a b:Int)(W:World):Calls Tryz.prog 168 #[.int .i64 s,.int .i64 a,.int .i64 b] W fun e w'=>e=.returned (.bool (zbG s a b))∧w'=W:=by
 go_enter Tryz.func168,Tryz.ntmps168
 go_wp2
 all_goals
  go_ret
  refine⟨?_,rfl⟩
  simp[zbG, *]
theorem zrp (x:Int)(W:World):Calls Tryz.prog 193 #[.int .i64 x] W fun e w'=>e=.returned (.bool false)∧w'=W:=by
 go_enter Tryz.func193,Tryz.ntmps193
 go_wp2
 all_goals
  go_ret
  exact⟨by simp,rfl⟩
theorem cmpK (x y:Int)(W:World):Calls Tryz.prog 161 #[.int .i64 x,.int .i64 y] W fun e w'=>e=.returned (.int .i64 (cmpI x y))∧w'=W:=by
 have h1:=fun z W=>zrp z W
 go_enter Tryz.func161,Tryz.ntmps161
 go_wp2_with (go_at_call 193;refine(h1 _ _).mono ?_;rintro e w' ⟨rfl,rfl⟩)
 all_goals
  go_ret
  refine⟨?_,rfl⟩
  simp[cmpI, *]
  try(split<;>(try split)<;>omega)
theorem zrq (a b:zap)(W:World):Calls Tryz.prog 125 #[.agg a.enc.toArray,.agg b.enc.toArray] W fun e w'=>e=.returned (.int .i64 (cfO a b))∧∃q os',w'=grow (W.drewN q) os':=by
 obtain⟨a0,a1,a2,a3,a4,a5⟩:=a
 obtain⟨b0,b1,b2,b3,b4,b5⟩:=b
 have h1:=fun s x y W=>zqF s x y W
 have h2:=fun x y W=>cmpK x y W
 unfold cfO
 dsimp only[zap.enc]
 go_enter Tryz.func125,Tryz.ntmps125
 go_wp2_with (first|go_at_call 168;refine(h1 _ _ _ _).mono ?_;rintro e w' ⟨rfl,rfl⟩|go_at_call 161;refine(h2 _ _ _).mono ?_;rintro e w' ⟨rfl,rfl⟩)
 all_goals
  go_ret
  refine⟨?_,0,_,by rw[alloc_eq_grow,alloc_eq_grow,grow_grow];rfl⟩
  simp[*]
end Go.Proofs.YteocfhdocpeokaaGreat
namespace Go.Proofs.YteocfhdocpeokaaGreat
open Go Go.Sl Go.RowKit
attribute [local irreducible] AW ES EP Ld RetQ
set_option maxRecDepth 100000
theorem zrr {P:Program}{W:World}{N:Nat}{env:Env}{h:List zao}{Q:Exit→Env→List zao→Prop}{c:Code}{A:Option Addr}{n cc k:Nat}{e:TypeId}{cs:List Value}(hm:zao.own A n cc e k cs∈h)
 (hc:OwnF A n cc k cs→AW P W N c env h Q):AW P W N c env h Q:=zbI fun w hw=>⟨h,hw,hc (hw.ownF hm)⟩
theorem zli {α:Type}{p:α→Prop}:∀(l:List α),(∀x∈l,p x)→∃ls:List {x // p x},ls.map Subtype.val=l
 |[],_=>⟨[],rfl⟩
 |x::l,h=>by
  obtain⟨ls,hl⟩:=zli l (fun y hy=>h y (mcm _ hy))
  exact⟨⟨x,h x mcs⟩::ls,by simp[hl]⟩
theorem zrs {s:Int}{a b:zap}(ha:a.side=s):(cfO a b<0)↔(if s=1 then a.price>b.price∨(a.price=b.price∧a.seq<b.seq)else if s=2 then a.price<b.price∨(a.price=b.price∧a.seq<b.seq)else a.seq<b.seq):=by
 unfold cfO zbG cmpI
 subst ha
 by_cases h1:a.side=1
 ·simp only[h1,if_true]
  simp
  split<;>(try split)<;>(try split)<;>(try split)<;>omega
 ·by_cases h2:a.side=2
  ·simp only[h2]
   simp
   split<;>(try split)<;>(try split)<;>(try split)<;>omega
  ·simp[h1,h2]
   split<;>(try split)<;>omega
abbrev OrdS (s:Int):={o:zap // o.side=s}
instance instOrdS (s:Int):Inhabited (OrdS s):=⟨⟨⟨0,0,0,s,0,0⟩,rfl⟩⟩
def encS {s:Int}(x:OrdS s):List Value:=x.1.enc
def cfS {s:Int}(x y:OrdS s):Int:=cfO x.1 y.1
theorem ltS {s:Int}(x y:OrdS s):ltOf cfS x y=true↔(if s=1 then x.1.price>y.1.price∨(x.1.price=y.1.price∧x.1.seq<y.1.seq)else if s=2 then x.1.price<y.1.price∨(x.1.price=y.1.price∧x.1.seq<y.1.seq)else x.1.seq<y.1.seq):=by
 unfold ltOf
 rw[decide_eq_true_iff]
 exact zrs x.2
theorem swoS (s:Int):Sort.SWO (ltOf (cfS (s:=s))) where
 irrefl x:=by
  cases h:ltOf cfS x x
  ·rfl
  ·rw[ltS]at h;exfalso;split at h<;>(try split at h)<;>omega
 trans x y z h1 h2:=by
  rw[ltS]at*
  split<;>(try split)<;>simp_all<;>omega
 ntrans x y z h1 h2:=by
  cases h:ltOf cfS x z
  ·rfl
  ·exfalso
   have k1:¬ltOf cfS x y=true:=by rw[h1];simp
   have k2:¬ltOf cfS y z=true:=by rw[h2];simp
   rw[ltS]at h k1 k2
   split at h<;>(try split at h)<;>simp_all<;>omega
theorem zni (W:World)(s:Int)(F:List zao)(A:Option Addr)(c:Nat)(l:List zap)(hl:∀o∈l,o.side=s)(hb:l.length≤1000000):
 zax Tryz.prog W 124 [.slice A l.length c,.func (.func 125) #[] #[]] (.own A l.length c 168 6 (l.flatMap zap.enc)::F)
  (fun v h'=>v=.tuple #[]∧∃l':List zap,l'.Perm l∧l'.Pairwise (fun a b=>¬cfO b a<0)∧h'=.own A l'.length c 168 6 (l'.flatMap zap.enc)::F):=by
 obtain⟨ls,rfl⟩:=zli (p:=fun o=>o.side=s) l hl
 have e:∀m:List (OrdS s),(m.map Subtype.val).flatMap zap.enc=m.flatMap encS:=fun m=>by rw[List.flatMap_map];rfl
 have hf:zmP Tryz.prog 124 :=⟨_,Tryz.func124,rfl,rfl⟩
 have eg:∀args w,(callFunc 125 args).run Tryz.prog w=.ok (.enter 125 args) w:=enters_of Tryz.func125 (by kernel_rfl) rfl
 have:=zro (P:= Tryz.prog) (W:=W) (F:=F) (enc:=encS (s:=s)) (k:=6) zsV hf Tryz.isAgg168 Tryz.sizeOf168 (fun x=>x.1.enc_len) (fun x=>x.1.enc_one) cfS (swoS s) 125 eg (fun x y W=>zrq x.1 y.1 W) A c 168 ls (by simpa using hb)
 rw[llm,e]
 refine zax.mono this ?_
 rintro v h' ⟨rfl,l',hp,hs,rfl⟩
 refine⟨rfl,l'.map Subtype.val,hp.map _,?_,by rw[llm,e]⟩
 rw[List.pairwise_map]
 exact hs.imp (fun{a b} hab=>odf hab)
theorem zfl (W:World)(h:List zao)(p:Nat)(A:Option Addr)(c:Nat)(l:List zap)(s:Int)(m1:zao.blk p 152 [.slice A l.length c]∈h)(m2:zao.own A l.length c 168 6 (l.flatMap zap.enc)∈h)(hb:l.length≤1000000)(hu:zfi l)(hv:∀o∈l,isB o.side=true):
 zax Tryz.prog W 82 [.pointer (some ⟨p,0,none⟩),.int .i64 s] h
  (fun v h'=>∃A' c',v=.slice A' (za3 s l).length c'∧h'=.own A' (za3 s l).length c' 168 6 ((za3 s l).flatMap zap.enc)::h∧OwnF A' (za3 s l).length c' 6 ((za3 s l).flatMap zap.enc)):=by
 refine zax.dropF ?_
 refine zaf Tryz.func82 rfl rfl Tryz.results82 Tryz.ntmps82 rfl rfl ?_
 refine zbi m2 (fun hl hnc hcc hsome hnone hone=> ?_)
 have hr:zaz W h A l.length 6 (l.flatMap zap.enc):=zaz.own m2 hl hone
 repeat' (first|apply zah|apply zaa|apply zam|apply zaj|apply zag|apply zac hT;iterate 4 exact rfl|(apply zad;(iterate 5 exact rfl);first|exact zaq hT rfl rfl m1 rfl rfl)|apply zan;iterate 2 exact rfl)
 refine zbI (fun w hw=>⟨_,hw.own_nil 168 6,?_⟩)
 have hml:∀k,((l.take k).filter (zbB s)).length≤k:=fun k=>by
  have:=List.length_filter_le (zbB s) (l.take k);simp at this;omega
 refine zbT (α:=Nat×Option Addr×Nat) (E:=fun x=>[(1,.int .i64 s),(5,.slice x.2.1 ((l.take x.1).filter (zbB s)).length x.2.2),(13,.slice A l.length c),(14,.int .i64 l.length),(15,.int .i64 x.1)])
  (H:=fun x=>.own x.2.1 ((l.take x.1).filter (zbB s)).length x.2.2 168 6 (((l.take x.1).filter (zbB s)).flatMap zap.enc)::h) (μ:=fun x=>l.length - x.1)
  (S:=fun x=>x.1≤l.length) (0,none,0) (J:=[]) (Nat.zero_le _) ⟨rfl,rfl,rfl,rfl,rfl,trivial⟩ (plr _) ?_
 rintro⟨k,A5,c5⟩ hk
 dsimp only at hk ⊢
 have hmk:=hml k
 by_cases hlt:k<l.length
 ·obtain⟨x,hx⟩:∃x,l[k]? =some x:=⟨l[k]'(by omega),gge (by omega)⟩
  have hx2:l[(k:Int).toNat]? =some x:=by simpa using hx
  obtain⟨g,hA⟩:=hsome (by omega)
  have hA2:A.isSome=true:=by rw[hA];rfl
  have hd1:decide ((k:Int)<(l.length:Int))=true:=by simp;omega
  have hrc:=fun X=>hr.cons (c:=X)
  cases hlv:zbB s x
  ·have hne:¬x.side=s:=by simpa [zbB]using hlv
   have hs1:(l.take (k+1)).filter (zbB s)=(l.take k).filter (zbB s):=by
    rw[List.take_add_one,hx,List.filter_append];simp[hlv]
   repeat' (first|apply zah|apply zaa|apply zam|apply zaj|apply zag|apply zac hT;iterate 4 exact rfl|apply zaM hT;(iterate 4 exact rfl);(iterate 2 omega)|apply zaJ hT;(iterate 8 exact rfl);(iterate 2 omega);exact hA2|apply zad;(iterate 5 exact rfl);exact zaO hT rfl rfl (hrc _) zap.enc_len rfl hx2 rfl|apply zay hT;(iterate 5 exact rfl);intro g7|apply zar hT;(iterate 6 exact rfl);exact sel0;(iterate 3 exact rfl);exact nle rfl|(apply zad;(iterate 5 exact rfl);first|exact zaq hT rfl rfl mem0 rfl rfl)|(apply zal;exact rfl;all_goals(intro hb;(try simp only[hb]);(first|replace hb:=odt hb|replace hb:=odf hb);(try omega))))
   all_goals first
    |(exfalso;omega)
    |(refine zaD (k+1,A5,c5) (by dsimp only;omega) (by dsimp only;omega) ⟨rfl,by dsimp only;rw[hs1];rfl,rfl,rfl,rfl,trivial⟩ ?_
      dsimp only
      rw[hs1]
      exact za5 zaX)
  ·have hne:x.side=s:=by simpa [zbB]using hlv
   have hs1:(l.take (k+1)).filter (zbB s)=(l.take k).filter (zbB s)++[x]:=by
    rw[List.take_add_one,hx,List.filter_append];simp[hlv]
   repeat' (first|apply zah|apply zaa|apply zam|apply zaj|apply zag|apply zac hT;iterate 4 exact rfl|apply zaM hT;(iterate 4 exact rfl);(iterate 2 omega)|apply zaJ hT;(iterate 8 exact rfl);(iterate 2 omega);exact hA2|apply zad;(iterate 5 exact rfl);exact zaO hT rfl rfl (hrc _) zap.enc_len rfl hx2 rfl|apply zay hT;(iterate 5 exact rfl);intro g7|apply zar hT;(iterate 6 exact rfl);exact sel0;(iterate 3 exact rfl);exact nle rfl|apply zaB hT;(iterate 12 exact rfl);intro g|(apply zbb hT;(iterate 10 exact rfl);(first|exact selS sel1);exact zaz.own mem0 rfl (zap.enc_one x);omega;(show(_:Nat)*48≤_;omega);intro A' c')|(apply zad;(iterate 5 exact rfl);first|exact zaq hT rfl rfl mem0 rfl rfl|exact zaF hT rfl rfl mem0 rfl)|(apply zal;exact rfl;all_goals(intro hb;(try simp only[hb]);(first|replace hb:=odt hb|replace hb:=odf hb);(try omega))))
   all_goals first
    |(exfalso;omega)
    |(refine zaD (k+1,A',c') (by dsimp only;omega) (by dsimp only;omega) ⟨rfl,by dsimp only;rw[hs1,lla];rfl,rfl,rfl,rfl,trivial⟩ ?_
      dsimp only
      rw[hs1,lla,List.flatMap_append]
      apply zaQ;(first|exact sel0)
      exact dX)
 ·obtain rfl:k=l.length:=by omega
  have hd1:decide ((l.length:Int)<(l.length:Int))=false:=by simp
  rw[List.take_length]at hmk ⊢
  have hside:∀o∈l.filter (zbB s),o.side=s:=fun o ho=>by simpa [zbB]using (List.mem_filter.1 ho).2
  have hsort:=fun A5 c5=>zni W s h A5 c5 (l.filter (zbB s)) hside (by omega)
  have hfin:∀m:List zap,m.Perm (l.filter (zbB s))→m.Pairwise (fun a b=>¬cfO b a<0)→m=za3 s l:=fun m hp hs=>zks hu hv hp hs
  have hlen:(za3 s l).length=(l.filter (zbB s)).length:=(zbW s l).length_eq
  repeat' (first|apply zah|apply zaa|apply zak|apply zaN|apply zag|apply zac hT;iterate 4 exact rfl|apply zau (hs:=(hsort _ _));(iterate 7 exact rfl);(rintro _ _ ⟨rfl,m,hp,hs,rfl⟩;obtain rfl:=hfin m hp hs)|(apply zal;exact rfl;all_goals(intro hb;(try simp only[hb]);(first|replace hb:=odt hb|replace hb:=odf hb);(try omega))))
  apply ret1;exact rfl
  refine⟨_,zaX,fun w hw=>⟨A5,c5,by rw[hlen],rfl,hw.ownF mem0⟩⟩
/-! ### levels -/
theorem zl4 {o:List zap}(ho:∀x∈o,1≤x.left∧x.left≤1000000)(hb:o.length≤1000000):∀v∈za9 o,1≤v.qty∧v.qty≤1000000*o.length:=by
 have key:∀(o:List zap) (v:List Lvl) (n:Nat),(∀x∈o,1≤x.left∧x.left≤1000000)→(∀y∈v,1≤y.qty∧y.qty≤1000000*(n:Int))→∀y∈o.foldl zcI v,1≤y.qty∧y.qty≤1000000*((n+o.length:Nat):Int):=by
  intro o
  induction o with
  |nil=>intro v n _ hv y hy;simpa using hv y hy
  |cons x o ih=>
   intro v n ho hv y hy
   rw[List.foldl_cons]at hy
   have hx:=ho x mcs
   have:=ih (zcI v x) (n+1) (fun z hz=>ho z (mcm _ hz)) (fun z hz=> ?_) y hy
   ·rw[List.length_cons]
    have e:((n+1+o.length:Nat):Int)=((n+(o.length+1):Nat):Int):=by omega
    rw[e]at this;exact this
   ·unfold zcI at hz
    have hmono:∀y∈v,1≤y.qty∧y.qty≤1000000*((n+1:Nat):Int):=fun y hy=>by have:=hv y hy;omega
    split at hz
    ·rename_i w hw
     have hwv:w∈v:=List.mem_of_getLast? hw
     split at hz
     ·rcases lma.1 hz with h|h
      ·exact hmono z ((List.dropLast_sublist v).subset h)
      ·rw[lms.1 h];have:=hv w hwv;dsimp only;omega
     ·rcases lma.1 hz with h|h
      ·exact hmono z h
      ·rw[lms.1 h];dsimp only;omega
    ·rw[lms.1 hz];dsimp only;omega
 intro v hv
 have:=key o [] 0 ho (fun y hy=>by cases hy) v hv
 simpa using this
theorem zl5 {v:List Lvl}{x:Lvl}{o:zap}(h:v[v.length - 1]? =some x)(hp:x.price=o.price):zcI v o=v.set (v.length - 1) ⟨x.price,x.qty+o.left⟩:=by
 have hl:v.getLast? =some x:=by rw[List.getLast?_eq_getElem?];exact h
 unfold zcI
 rw[hl]
 dsimp only
 rw[if_pos hp]
 have hne:v≠[]:=fun e=>by rw[e]at h;simp at h
 obtain⟨u,y,rfl⟩:=List.eq_nil_or_concat v |>.resolve_left hne
 simp
theorem zjs {v:List Lvl}{o:zap}(h:∀x,v[v.length - 1]? =some x→x.price≠o.price):zcI v o=v++[⟨o.price,o.left⟩]:=by
 unfold zcI
 split
 ·rename_i x hx
  rw[List.getLast?_eq_getElem?]at hx
  rw[if_neg (h x hx)]
 ·rename_i hx
  rw[List.getLast?_eq_none_iff]at hx
  rw[hx];rfl
theorem zdZ (W:World)(h:List zao)(p:Nat)(A:Option Addr)(c:Nat)(l:List zap)(s:Int)(m1:zao.blk p 152 [.slice A l.length c]∈h)(m2:zao.own A l.length c 168 6 (l.flatMap zap.enc)∈h)(hb:l.length≤1000000)(hu:zfi l)(hv:∀o∈l,isB o.side=true)(hq:∀o∈l,1≤o.left∧o.left≤1000000):
 zax Tryz.prog W 70 [.pointer (some ⟨p,0,none⟩),.int .i64 s] h
  (fun v h'=>∃A' c',v=.slice A' (za9 (za3 s l)).length c'∧h'=.own A' (za9 (za3 s l)).length c' 134 2 ((za9 (za3 s l)).flatMap Lvl.enc)::h∧OwnF A' (za9 (za3 s l)).length c' 2 ((za9 (za3 s l)).flatMap Lvl.enc)):=by
 refine zax.dropF ?_
 refine zaf Tryz.func70 rfl rfl Tryz.results70 Tryz.ntmps70 rfl rfl ?_
 have hside:=zfl W h p A c l s m1 m2 hb hu hv
 have hsl:=zcW s l
 have hsq:∀o∈za3 s l,1≤o.left∧o.left≤1000000:=fun o ho=>hq o (zbX ho).1
 generalize za3 s l=sl at hside hsl hsq
 repeat' (first|apply zah|apply zaa|apply zaj|apply zag|apply zac hT;iterate 4 exact rfl|apply zau (hs:=hside);(iterate 7 exact rfl);rintro _ _ ⟨AS,cS,rfl,rfl,hfS⟩)
 refine zbI (fun w hw=>⟨_,hw.own_nil 134 2,?_⟩)
 have hll:∀k,k≤sl.length→(za9 (sl.take k)).length≤k:=by
  intro k
  induction k with
  |zero=>intro _;simp[za9]
  |succ k ih=>
   intro hk
   obtain⟨x,hx⟩:∃x,sl[k]? =some x:=⟨sl[k]'(by omega),gge (by omega)⟩
   rw[List.take_add_one,hx]
   have:=zjn (za9 (sl.take k)) x
   have:=ih (by omega)
   rw[show(some x).toList=[x]from rfl,zeQ];omega
 refine zbT (α:=Nat×Option Addr×Nat) (E:=fun x=>[(5,.slice x.2.1 (za9 (sl.take x.1)).length x.2.2),(11,.slice AS sl.length cS),(12,.int .i64 sl.length),(13,.int .i64 x.1)])
  (H:=fun x=>.own x.2.1 (za9 (sl.take x.1)).length x.2.2 134 2 ((za9 (sl.take x.1)).flatMap Lvl.enc)::.own AS sl.length cS 168 6 (sl.flatMap zap.enc)::h) (μ:=fun x=>sl.length - x.1)
  (S:=fun x=>x.1≤sl.length) (0,none,0) (J:=[]) (Nat.zero_le _) ⟨rfl,rfl,rfl,rfl,trivial⟩ (plr _) ?_
 rintro⟨k,A5,c5⟩ hk
 dsimp only at hk ⊢
 refine zrr mem0 (fun hf5=> ?_)
 have hmk:=hll k hk
 by_cases hlt:k<sl.length
 ·obtain⟨x,hx⟩:∃x,sl[k]? =some x:=⟨sl[k]'(by omega),gge (by omega)⟩
  have hx2:sl[(k:Int).toNat]? =some x:=by simpa using hx
  have hA:=hfS.some_ (by omega)
  have hd1:decide ((k:Int)<(sl.length:Int))=true:=by simp;omega
  have hstep:za9 (sl.take (k+1))=zcI (za9 (sl.take k)) x:=by
   rw[List.take_add_one,hx,show(some x).toList=[x]from rfl,zeQ]
  have hqx:=hsq x (mog hx)
  have hqv:=zl4 (o:=sl.take k) (fun o ho=>hsq o (List.mem_of_mem_take ho)) (by simp;omega)
  have htl:((sl.take k).length:Int)≤1000000:=by simp;omega
  generalize hvl:za9 (sl.take k)=v at hf5 hmk hstep hqv ⊢
  by_cases h0:v.length=0
  ·have hv0:v=[]:=List.eq_nil_of_length_eq_zero h0
   have hadd:zcI v x=v++[⟨x.price,x.left⟩]:=zjs (fun y hy=>by rw[hv0]at hy;simp at hy)
   have hd2:decide (((v.length:Nat):Int)>0)=false:=by simp;omega
   repeat' (first|apply zah|apply zaa|apply zam|apply zaj|apply zag|apply zac hT;iterate 4 exact rfl|apply zaK;iterate 3 exact rfl|apply zaM hT;(iterate 4 exact rfl);(iterate 2 omega)|apply zaC [] [] hmix;decide+kernel|apply zaJ hT;(iterate 8 exact rfl);(iterate 2 omega);exact hA|apply zad;(iterate 5 exact rfl);exact zaO hT rfl rfl (hfS.reads mem1) zap.enc_len rfl hx2 rfl|apply zay hT;(iterate 5 exact rfl);intro g7|apply zar hT;(iterate 6 exact rfl);exact sel0;(iterate 3 exact rfl);exact nle rfl|apply zb8 hT;iterate 4 exact rfl|apply zaB hT;(iterate 12 exact rfl);intro g|(apply zbb hT;(iterate 10 exact rfl);(first|exact selS sel1);exact zaz.own mem0 rfl (Lvl.enc_one ⟨x.price,x.left⟩);omega;(show(_:Nat)*16≤_;omega);intro A' c')|(apply zad;(iterate 5 exact rfl);first|exact zaq hT rfl rfl mem0 rfl rfl)|apply zan;iterate 2 exact rfl|(apply zaH;exact rfl;all_goals(intro hb;(try simp only[hb]);(first|replace hb:=odt hb|replace hb:=odf hb);(try omega)))|(apply zal;exact rfl;all_goals(intro hb;(try simp only[hb]);(first|replace hb:=odt hb|replace hb:=odf hb);(try omega))))
   all_goals first
    |(exfalso;omega)
    |(refine zaD (k+1,A',c') (by dsimp only;omega) (by dsimp only;omega) ⟨by dsimp only;rw[hstep,hadd,lla];rfl,rfl,rfl,rfl,trivial⟩ ?_
      dsimp only
      rw[hstep,hadd,lla,List.flatMap_append]
      apply zaQ;(first|exact sel0)
      apply zaQ;(first|exact selS sel1)
      exact dX)
    |(exfalso;simp_all;done)
  ·obtain⟨y,hy⟩:∃y,v[v.length - 1]? =some y:=⟨v[v.length - 1]'(by omega),gge (by omega)⟩
   have hy2:v[((v.length:Int) - 1).toNat]? =some y:=by rw[show((v.length:Int) - 1).toNat=v.length - 1 by omega];exact hy
   have hA5:=hf5.some_ (by omega)
   have hd2:decide (((v.length:Nat):Int)>0)=true:=by simp;omega
   have hqy:=hqv y (mog hy)
   by_cases hpp:y.price=x.price
   ·have hadd:=zl5 (o:=x) hy hpp
    have hlay:lay (v.flatMap Lvl.enc) (((v.length:Int) - 1).toNat*2+1) [.int .i64 (y.qty+x.left)]=(zcI v x).flatMap Lvl.enc:=by
     rw[hadd,show((v.length:Int) - 1).toNat=v.length - 1 by omega,zbQ Lvl.enc_len (x':=⟨y.price,y.qty+x.left⟩) hy (Nat.le_of_ble_eq_true rfl) rfl]
    have hlen:(zcI v x).length=v.length:=by rw[hadd];simp
    repeat' (first|apply zah|apply zaa|apply zam|apply zaN|apply zaj|apply zag|apply zac hT;iterate 4 exact rfl|apply zaM hT;(iterate 4 exact rfl);(iterate 2 omega)|apply zaC [] [] hmix;decide+kernel|(apply zaJ hT;(iterate 8 exact rfl);(iterate 2 omega);first|exact hA|exact hA5)|(apply zad;(iterate 5 exact rfl);first|exact zaO hT rfl rfl (hfS.reads mem1) zap.enc_len rfl hx2 rfl|exact zbx hT rfl rfl (hf5.reads mem1) Lvl.enc_len (za4 _ _ _) hy2 (by decide) rfl)|apply zay hT;(iterate 5 exact rfl);intro g7|apply zar hT;(iterate 6 exact rfl);exact sel0;(iterate 3 exact rfl);exact nle rfl|(apply zbn hT;(iterate 6 exact rfl);(first|exact sel1);exact za4 _ _ _;exact rfl;exact rfl;(show(((v.length:Int) - 1).toNat*2+1)+1≤v.length*2;omega);omega)|(apply zad;(iterate 5 exact rfl);first|exact zaq hT rfl rfl mem0 rfl rfl)|(apply zaH;exact rfl;all_goals(intro hb;(try simp only[hb]);(first|replace hb:=odt hb|replace hb:=odf hb);(try omega)))|(apply zal;exact rfl;all_goals(intro hb;(try simp only[hb]);(first|replace hb:=odt hb|replace hb:=odf hb);(try omega))))
    all_goals first
     |(exfalso;omega)
     |(refine zaD (k+1,A5,c5) (by dsimp only;omega) (by dsimp only;omega) ⟨by dsimp only;rw[hstep,hlen];rfl,rfl,rfl,rfl,trivial⟩ ?_
       dsimp only
       rw[hstep,hlen,←hlay]
       apply zaQ;(first|exact sel0)
       apply zaQ;(first|exact sel1)
       exact dX)
     |(exfalso;simp_all;done)
   ·have hadd:zcI v x=v++[⟨x.price,x.left⟩]:=zjs (fun z hz=>by rw[hy]at hz;cases hz;exact hpp)
    repeat' (first|apply zah|apply zaa|apply zam|apply zaj|apply zag|apply zac hT;iterate 4 exact rfl|apply zaM hT;(iterate 4 exact rfl);(iterate 2 omega)|apply zaC [] [] hmix;decide+kernel|(apply zaJ hT;(iterate 8 exact rfl);(iterate 2 omega);first|exact hA|exact hA5)|(apply zad;(iterate 5 exact rfl);first|exact zaO hT rfl rfl (hfS.reads mem1) zap.enc_len rfl hx2 rfl|exact zbx hT rfl rfl (hf5.reads mem1) Lvl.enc_len (za4 _ _ _) hy2 (by decide) rfl)|apply zay hT;(iterate 5 exact rfl);intro g7|apply zar hT;(iterate 6 exact rfl);exact sel0;(iterate 3 exact rfl);exact nle rfl|apply zb8 hT;iterate 4 exact rfl|apply zaB hT;(iterate 12 exact rfl);intro g|(apply zbb hT;(iterate 10 exact rfl);(first|exact selS sel1);exact zaz.own mem0 rfl (Lvl.enc_one ⟨x.price,x.left⟩);omega;(show(_:Nat)*16≤_;omega);intro A' c')|(apply zad;(iterate 5 exact rfl);first|exact zaq hT rfl rfl mem0 rfl rfl)|(apply zaH;exact rfl;all_goals(intro hb;(try simp only[hb]);(first|replace hb:=odt hb|replace hb:=odf hb);(try omega)))|(apply zal;exact rfl;all_goals(intro hb;(try simp only[hb]);(first|replace hb:=odt hb|replace hb:=odf hb);(try omega))))
    all_goals first
     |(exfalso;omega)
     |(refine zaD (k+1,A',c') (by dsimp only;omega) (by dsimp only;omega) ⟨by dsimp only;rw[hstep,hadd,lla];rfl,rfl,rfl,rfl,trivial⟩ ?_
       dsimp only
       rw[hstep,hadd,lla,List.flatMap_append]
       apply zaQ;(first|exact sel0)
       apply zaQ;(first|exact selS sel1)
       exact dX)
     |(exfalso;simp_all;done)
 ·obtain rfl:k=sl.length:=by omega
  have hd1:decide ((sl.length:Int)<(sl.length:Int))=false:=by simp
  rw[List.take_length]at hf5 ⊢
  repeat' (first|apply zah|apply zaa|apply zak|apply zaN|apply zag|apply zac hT;iterate 4 exact rfl|(apply zal;exact rfl;all_goals(intro hb;(try simp only[hb]);(first|replace hb:=odt hb|replace hb:=odf hb);(try omega))))
  apply ret1;exact rfl
  exact⟨.own A5 (za9 sl).length c5 134 2 ((za9 sl).flatMap Lvl.enc)::h,by apply zaQ;(first|exact sel0);exact dX,fun w hw=>⟨A5,c5,rfl,rfl,hf5⟩⟩
end Go.Proofs.YteocfhdocpeokaaGreat
namespace Go.Proofs.YteocfhdocpeokaaGreat
open Go Go.Sl
attribute [local irreducible] AW ES EP Ld RetQ
set_option maxRecDepth 100000
structure za6 (l:List zap):Prop where
 seq:zfi l
 id:l.Pairwise fun a b=>a.id≠b.id
 ok:∀o∈l,okO o=true
 len:l.length≤64
theorem za6.nil :za6 []:=⟨List.Pairwise.nil,List.Pairwise.nil,(fun o h=>by cases h),Nat.zero_le _⟩
theorem zlj {o:zap}(h:okO o=true):isB o.side=true:=by simp only[okO,Bool.and_eq_true]at h;exact h.2
theorem zlk {o:zap}(h:okO o=true):1≤o.left∧o.left≤1000000:=by
 simp only[okO,Bool.and_eq_true,decide_eq_true_eq]at h
 exact⟨h.1.1.1.2,h.1.1.2⟩
theorem za6.side {l:List zap}(h:za6 l):∀o∈l,isB o.side=true:=fun o ho=>zlj (h.ok o ho)
theorem za6.left {l:List zap}(h:za6 l):∀o∈l,1≤o.left∧o.left≤1000000:=fun o ho=>zlk (h.ok o ho)
theorem za6.le {l:List zap}(h:za6 l):l.length≤1000000:=by have:=h.len;omega
theorem za6.add {l:List zap}(h:za6 l)(o:zap):za6 (addO o l):=by
 unfold addO
 split
 ·rename_i h0
  have hE:=h0
  unfold zeR at hE
  have h1:¬(okO o=false∨zaT (zbj o) l≥0):=fun hh=>by rw[if_pos hh]at hE;omega
  rw[if_neg h1]at hE
  have h2:¬l.length≥64:=fun hh=>by rw[if_pos hh]at hE;omega
  have hno:∀x∈l,zbj o x=false:=zbV.1 (by omega)
  have hok:okO o=true:=by
   cases hh:okO o
   ·exact absurd (.inl hh) h1
   ·rfl
  have hne:∀x∈l,x.id≠o.id∧x.seq≠o.seq:=fun x hx=>by
   have:=hno x hx
   simp only[zbj,Bool.or_eq_false_iff,beq_eq_false_iff_ne]at this
   exact this
  refine⟨?_,?_,?_,by simp;omega⟩
  ·unfold zfi
   rw[List.pairwise_append]
   exact⟨h.seq,by simp,fun a ha b hb=>by rw[lms.1 hb];exact(hne a ha).2⟩
  ·rw[List.pairwise_append]
   exact⟨h.id,by simp,fun a ha b hb=>by rw[lms.1 hb];exact(hne a ha).1⟩
  ·intro x hx
   rcases lma.1 hx with hx|hx
   ·exact h.ok x hx
   ·rw[lms.1 hx];exact hok
 ·exact h
def lf (id left:Int)(x:zap):zap:=if x.id=id then{x with left:=left}else x
theorem znj {id left:Int}{l:List zap}(hu:l.Pairwise fun a b=>a.id≠b.id)(hE:zdp id left l=0):zb2 id left l=l.map (lf id left):=by
 rcases zc3 (p:=hasO id) l with ⟨hi,hf⟩|⟨i,x,hi,hx,hp,hf⟩
 ·simp[zdp,getO,hf]at hE
 ·have hg:getO id l=some x:=hf
  have hL:zb2 id left l=l.set i {x with left:=left}:=by simp[zb2,hg,hE,hi]
  rw[hL]
  have hxi:x.id=id:=by simpa [hasO]using hp
  obtain⟨hlt,hxe⟩:=gsi.1 hx
  apply List.ext_getElem?
  intro j
  rw[List.getElem?_map]
  by_cases hij:i=j
  ·subst hij
   rw[hx,List.getElem?_set_self hlt];simp[lf,hxi]
  ·rw[List.getElem?_set_ne hij]
   cases hy:l[j]? with
   |none=>rfl
   |some y=>
    simp only[Option.map_some]
    obtain⟨hjl,hye⟩:=gsi.1 hy
    have hne:y.id≠x.id:=by
     rcases Nat.lt_or_gt_of_ne hij with h|h
     ·have:=List.pairwise_iff_getElem.1 hu i j hlt hjl h
      rw[hxe,hye]at this;exact fun e=>this e.symm
     ·have:=List.pairwise_iff_getElem.1 hu j i hjl hlt h
      rw[hxe,hye]at this;exact this
    rw[lf,if_neg (by rw[←hxi];exact hne)]
theorem zll {id left:Int}{l:List zap}(hE:¬zdp id left l=0):zb2 id left l=l:=by
 unfold zb2
 split
 ·rfl
 ·rw[if_neg hE]
theorem za6.less {l:List zap}(h:za6 l){id left:Int}(hE:zdp id left l=0):za6 (zb2 id left l):=by
 rw[znj h.id hE]
 have hq:1≤left∧∀x∈l,x.id=id→left≤x.left:=by
  rcases zc3 (p:=hasO id) l with ⟨hi,hf⟩|⟨i,x,hi,hx,hp,hf⟩
  ·simp[zdp,getO,hf]at hE
  ·have hg:getO id l=some x:=hf
   have hb:¬(left<1∨left>x.left):=fun hh=>by simp[zdp,hg,hh]at hE
   refine⟨by omega,fun y hy hyi=> ?_⟩
   have hxi:x.id=id:=by simpa [hasO]using hp
   obtain⟨j,hj⟩:=List.getElem?_of_mem hy
   obtain⟨hlt,hxe⟩:=gsi.1 hx
   obtain⟨hjl,hye⟩:=gsi.1 hj
   rcases Nat.lt_trichotomy i j with h'|h'|h'
   ·have:=List.pairwise_iff_getElem.1 h.id i j hlt hjl h'
    rw[hxe,hye]at this;omega
   ·subst h';rw[hxe]at hye;rw[←hye];omega
   ·have:=List.pairwise_iff_getElem.1 h.id j i hjl hlt h'
    rw[hxe,hye]at this;omega
 have k:∀x:zap,(lf id left x).id=x.id∧(lf id left x).seq=x.seq:=fun x=>by unfold lf;split<;>exact⟨rfl,rfl⟩
 refine⟨?_,?_,?_,by simpa using h.len⟩
 ·unfold zfi;rw[List.pairwise_map];exact h.seq.imp (fun{a b} hab=>by rw[(k a).2,(k b).2];exact hab)
 ·rw[List.pairwise_map];exact h.id.imp (fun{a b} hab=>by rw[(k a).1,(k b).1];exact hab)
 ·intro o ho
  obtain⟨x,hx,rfl⟩:=lmm.1 ho
  have hok:=h.ok x hx
  have hl:=h.left x hx
  unfold lf
  split
  ·rename_i hxi
   have:=hq.2 x hx hxi
   simp only[okO,Bool.and_eq_true,decide_eq_true_eq]at hok ⊢
   obtain⟨⟨⟨⟨⟨⟨⟨a1,a2⟩,a3⟩,a4⟩,a5⟩,a6⟩,a7⟩,a8⟩:=hok
   exact⟨⟨⟨⟨⟨⟨⟨a1,a2⟩,a3⟩,a4⟩,hq.1⟩,by omega⟩,a7⟩,a8⟩
  ·exact hok
section
variable {P : Program} {W : World} {T : Tab} {N : Nat} {env : Env} {h : List zao} {kf : KF} {ops : Array Oper} {K : Env → List zao → Prop} {rest : List Oper}
end
/-! ### sums, and levels by price -/
def sumL (o:List zap):Int:=(o.map zap.left).sum
theorem zeu (a b:List Int):(a++b).sum=a.sum+b.sum:=by
 induction a with
 |nil=>simp
 |cons x a ih=>simp[ih];omega
theorem zeS (a b:List zap):sumL (a++b)=sumL a+sumL b:=by simp[sumL,zeu]
theorem znk {a b:List zap}(h:a.Perm b):sumL a=sumL b:=by
 induction h with
 |nil=>rfl
 |cons x _ ih=>simp[sumL]at ih ⊢;omega
 |swap x y l=>simp[sumL];omega
 |trans _ _ h1 h2=>omega
end Go.Proofs.YteocfhdocpeokaaGreat
namespace Go.Proofs.YteocfhdocpeokaaGreat
open Go Go.Sl
attribute [local irreducible] AW ES EP Ld RetQ
set_option maxRecDepth 100000
theorem zdt {id:Nat}{Q:Exit→Env→List zao→Prop}{env:Env}{h:List zao}(hq:Q .normal env h):zmQ id Q .normal env h:=hq
structure zpa where
 kind:Int
 order:zap
def zpa.enc (a:zpa):List Value:=.int .i64 a.kind::a.order.enc
theorem zpa.enc_len (a:zpa):a.enc.length=7:=rfl
theorem zfm (id:Int)(l:List zap):(zbf id l).Sublist l:=by
 unfold zbf
 split
 ·exact List.Sublist.refl _
 ·generalize (zaT (hasO id) l).toNat=i
  have h:l.take i++l.drop (i+1)=l.eraseIdx i:=(List.eraseIdx_eq_take_drop_succ l i).symm
  rw[h];exact List.eraseIdx_sublist l i
theorem za6.sub {l m:List zap}(h:za6 l)(hs:m.Sublist l):za6 m:=
 ⟨List.Pairwise.sublist hs h.seq,h.id.sublist hs,fun o ho=>h.ok o (hs.subset ho),Nat.le_trans hs.length_le h.len⟩
theorem za6.lessAny {l:List zap}(h:za6 l)(id left:Int):za6 (zb2 id left l):=by
 by_cases hE:zdp id left l=0
 ·exact h.less hE
 ·rw[zll hE];exact h
theorem zhV (o:List zap):(za9 o).length≤o.length:=by
 have:∀(o:List zap) (v:List Lvl),(o.foldl zcI v).length≤v.length+o.length:=by
  intro o
  induction o with
  |nil=>intro v;simp
  |cons a o ih=>intro v;rw[List.foldl_cons];have:=ih (zcI v a);have:=zjn v a;simp;omega
 have:=this o []
 unfold za9
 simpa using this
end Go.Proofs.YteocfhdocpeokaaGreat
namespace Go.Proofs.YteocfhdocpeokaaGreat
open Go Go.Sl
def pqO (o:zap):Int×Int:=(o.price,o.left)
def pqL (v:Lvl):Int×Int:=(v.price,v.qty)
def totL (l:List (Int×Int)):Int:=(l.map Prod.snd).sum
def zcl :List (Int×Int)→Int→Int
 |[],_=>0
 |x::r,q=>x.1*min q x.2+zcl r (q - min q x.2)
def okP (l:List (Int×Int)):Prop:=∀x∈l,1≤x.1∧x.1≤1000000∧1≤x.2
theorem okP.tail {x:Int×Int}{l:List (Int×Int)}(h:okP (x::l)):okP l:=fun y hy=>h y (mcm _ hy)
theorem zfn (x:Int×Int)(l:List (Int×Int)):totL (x::l)=x.2+totL l:=by simp[totL]
theorem zd0 (a b:List (Int×Int)):totL (a++b)=totL a+totL b:=by simp only[totL,List.map_append];exact zeu _ _
theorem zdc {l:List (Int×Int)}(h:okP l):0≤totL l:=by
 induction l with
 |nil=>simp[totL]
 |cons x l ih=>rw[zfn];have:=(h x mcs).2.2;have:=ih h.tail;omega
theorem zdG {a b:List (Int×Int)}(ha:okP a):∀{q:Int},0≤q→zcl (a++b) q=zcl a q+zcl b (q - min q (totL a)):=by
 induction a with
 |nil=>intro q hq;simp[zcl,totL,Int.min_eq_right hq]
 |cons x a ih=>
  intro q hq
  have h1:=(ha x mcs).2.2
  have h2:=zdc ha.tail
  rw[List.cons_append,zcl,zcl,ih ha.tail (q:=q - min q x.2) (by omega),zfn]
  have e:q - min q x.2 - min (q - min q x.2) (totL a)=q - min q (x.2+totL a):=by omega
  rw[e];omega
theorem znl (p n q:Int):zcl [(p,n)] q=p*min q n:=by simp[zcl]
theorem znm (p a b q:Int)(hq:0≤q)(ha:0≤a)(hb:0≤b):zcl [(p,a),(p,b)] q=zcl [(p,a+b)] q:=by
 simp only[zcl,Int.add_zero]
 rw[←Int.mul_add]
 congr 1
 omega
theorem zku {l:List (Int×Int)}(h:okP l):∀{q:Int},0≤q→min q (totL l)≤zcl l q∧zcl l q≤1000000*min q (totL l):=by
 induction l with
 |nil=>intro q hq;simp[zcl,totL,Int.min_eq_right hq]
 |cons x l ih=>
  intro q hq
  obtain⟨h1,h2,h3⟩:=h x mcs
  have ht:=zdc h.tail
  have:=ih h.tail (q:=q - min q x.2) (by omega)
  rw[zcl,zfn]
  have m1:min q x.2≤x.1*min q x.2:=by
   have:=Int.mul_le_mul_of_nonneg_right h1 (show 0≤min q x.2 by omega)
   omega
  have m2:x.1*min q x.2≤1000000*min q x.2:=Int.mul_le_mul_of_nonneg_right h2 (show 0≤min q x.2 by omega)
  have e:min q x.2+min (q - min q x.2) (totL l)=min q (x.2+totL l):=by omega
  omega
/-! ### a side -/
def okS (o:List zap):Prop:=∀x∈o,1≤x.price∧x.price≤1000000∧1≤x.left∧x.left≤1000000
theorem okS.pq {o:List zap}(h:okS o):okP (o.map pqO):=fun x hx=>by
 obtain⟨y,hy,rfl⟩:=lmm.1 hx
 exact⟨(h y hy).1,(h y hy).2.1,(h y hy).2.2.1⟩
theorem ziE (v:List Lvl)(o:zap):(∃u w,v=u++[w]∧w.price=o.price∧zcI v o=u++[⟨w.price,w.qty+o.left⟩])∨zcI v o=v++[⟨o.price,o.left⟩]:=by
 rcases List.eq_nil_or_concat v with rfl|⟨u,w,rfl⟩
 ·exact .inr rfl
 ·by_cases hp:w.price=o.price
  ·refine .inl ⟨u,w,by simp,hp,?_⟩
   simp[zcI,hp]
  ·refine .inr ?_
   simp[zcI,hp]
theorem zlm {l:List (Int×Int)}{x:Int×Int}(h:okP l)(hx:1≤x.1∧x.1≤1000000∧1≤x.2):okP (l++[x]):=fun y hy=>by
 rcases lma.1 hy with hy|hy
 ·exact h y hy
 ·rw[lms.1 hy];exact hx
theorem zpb {a b:List (Int×Int)}(h:okP (a++b)):okP a:=fun y hy=>h y (List.mem_append_left _ hy)
theorem zfo {l:List (Int×Int)}(h:okP l)(k:Nat):okP (l.take k):=fun y hy=>h y (List.mem_of_mem_take hy)
theorem zgM {o:List zap}(h:okS o):okP ((za9 o).map pqL)∧totL ((za9 o).map pqL)=totL (o.map pqO)∧∀q,0≤q→zcl ((za9 o).map pqL) q=zcl (o.map pqO) q:=by
 have key:∀n,∀o:List zap,o.length=n→okS o→okP ((za9 o).map pqL)∧totL ((za9 o).map pqL)=totL (o.map pqO)∧∀q,0≤q→zcl ((za9 o).map pqL) q=zcl (o.map pqO) q:=by
  intro n
  induction n with
  |zero=>
   intro o ho _
   rw[List.eq_nil_of_length_eq_zero ho]
   exact⟨fun x hx=>(by cases hx),rfl,fun _ _=>rfl⟩
  |succ n ih=>
   intro o ho hok
   rcases List.eq_nil_or_concat o with rfl|⟨o',x,rfl⟩
   ·simp at ho
   ·rw[List.concat_eq_append]at hok ho ⊢
    have hx:=hok x (by simp)
    have hok':okS o':=fun y hy=>hok y (List.mem_append_left _ hy)
    obtain⟨i1,i2,i3⟩:=ih o' (by simpa using ho) hok'
    rw[zeQ,List.map_append,zd0]
    have hox:List.map pqO [x]=[(x.price,x.left)]:=rfl
    rcases ziE (za9 o') x with ⟨u,w,hv,hp,he⟩|he
    ·rw[he]
     rw[hv]at i1 i2 i3
     simp only[List.map_append,List.map_cons,List.map_nil]at i1 i2 i3 ⊢
     have hw:=i1 (pqL w) (by simp)
     have hu:=zpb i1
     refine⟨zlm hu ⟨hw.1,hw.2.1,?_⟩,?_,?_⟩
     ·have:=hw.2.2;simp only[pqL]at *;omega
     ·rw[zd0]at i2 ⊢
      rw[←i2]
      simp[totL,pqL,pqO];omega
     ·intro q hq
      have htu:=zdc hu
      have:=i3 q hq
      rw[zdG hok'.pq hq,←this,zdG hu hq,zdG hu hq,←i2,zd0]
      have e2:totL [pqL w]=w.qty:=by simp[totL,pqL]
      have hwq:=hw.2.2
      simp only[pqL]at hwq
      rw[e2]
      have e3:=znm w.price w.qty x.left (q - min q (totL (u.map pqL))) (by omega) (by omega) (by omega)
      show _+zcl [(w.price,w.qty+x.left)] _=_+zcl [(w.price,w.qty)] _+zcl [(x.price,x.left)] _
      rw[←e3,←hp]
      simp only[zcl,Int.add_zero]
      rw[Int.add_assoc]
      congr 3
      omega
    ·rw[he]
     simp only[List.map_append,List.map_cons,List.map_nil]
     refine⟨zlm i1 ⟨hx.1,hx.2.1,hx.2.2.1⟩,?_,?_⟩
     ·rw[zd0,i2];rfl
     ·intro q hq
      rw[zdG i1 hq,zdG hok'.pq hq,i3 q hq,i2];rfl
 exact key _ o rfl h
theorem zqG {o:List zap}(h:okS o):totL (o.map pqO)≤1000000*o.length:=by
 induction o with
 |nil=>simp[totL]
 |cons x o ih=>
  have hx:=h x mcs
  have:=ih (fun y hy=>h y (mcm _ hy))
  rw[List.map_cons,zfn,List.length_cons]
  simp only[pqO]at*
  omega
theorem zgN {o:zap}(h:okO o=true):1≤o.price∧o.price≤1000000:=by
 simp only[okO,Bool.and_eq_true,decide_eq_true_eq]at h
 exact⟨h.1.1.1.1.1.2,h.1.1.1.1.2⟩
theorem za6.okS {l:List zap}(h:za6 l)(s:Int):okS (za3 s l):=fun x hx=>by
 have:=(zbX hx).1
 exact⟨(zgN (h.ok x this)).1,(zgN (h.ok x this)).2,(h.left x this).1,(h.left x this).2⟩
def allS (s:Int)(l:List zap):Int:=totL ((za3 s l).map pqO)
def zgO (s:Int)(l:List zap)(q:Int):Option Nat:=if q<1∨allS s l<q then none else some (zcl ((za3 s l).map pqO) q).toNat
theorem znn {l:List zap}(h:za6 l)(s:Int):0≤allS s l∧allS s l≤64000000:=by
 have h1:=zdc (h.okS s).pq
 have h2:=zqG (h.okS s)
 have h3:=zcW s l
 have h4:=h.len
 unfold allS
 omega
end Go.Proofs.YteocfhdocpeokaaGreat
namespace Go.Proofs.YteocfhdocpeokaaGreat
open Go Go.Sl Go.RowKit
namespace MulK
theorem maskN (a:Nat)(ha:a<18446744073709551616):bits .and .u64 (a:Int) 4294967295=((a%4294967296:Nat):Int):=by
 have h:=bits_and_u64_nat a 4294967295 ha (by omega)
 have e:a &&& 4294967295=a%4294967296:=Nat.and_two_pow_sub_one_eq_mod a 32
 rw[e]at h
 exact h
theorem divN (a:Nat):(a:Int) / 4294967296=((a / 4294967296:Nat):Int):=by omega
theorem mulN (a b:Nat):(a:Int)*(b:Int)=((a*b:Nat):Int):=(Int.natCast_mul a b).symm
theorem addN (a b:Nat):(a:Int)+(b:Int)=((a+b:Nat):Int):=(Int.natCast_add a b).symm
theorem wrapN (a:Nat)(ha:a<18446744073709551616):IntKind.u64.wrap (a:Int)=(a:Int):=by rw[IntKind.wrap_u64];omega
theorem wrapM (a:Nat):IntKind.u64.wrap (a:Int)=((a%18446744073709551616:Nat):Int):=by rw[IntKind.wrap_u64];omega
end MulK
theorem mulK (x y:Nat)(hx:x<18446744073709551616)(hy:y<18446744073709551616)(w:World):
 Calls Tryz.prog 68 #[.int .u64 x,.int .u64 y] w fun e w'=>e=.returned (.tuple #[.int .u64 ((x*y / 18446744073709551616:Nat):Int),.int .u64 ((x*y%18446744073709551616:Nat):Int)])∧w'=w:=by
 obtain⟨bd,bt,bw,hhi⟩:=Lib.mul64_hi x y hx hy
 have ba:=Lib.half_mul_le (a:=x / 4294967296) (b:=y / 4294967296) (by omega) (by omega)
 have bb:=Lib.half_mul_le (a:=x / 4294967296) (b:=y%4294967296) (by omega) (by omega)
 have bc:=Lib.half_mul_le (a:=x%4294967296) (b:=y / 4294967296) (by omega) (by omega)
 have ba':x / 4294967296*(y / 4294967296)<18446744073709551616:=by omega
 have bb':x / 4294967296*(y%4294967296)<18446744073709551616:=by omega
 have bc':x%4294967296*(y / 4294967296)<18446744073709551616:=by omega
 have bh1:x / 4294967296*(y / 4294967296)+(x / 4294967296*(y%4294967296)+x%4294967296*(y%4294967296) / 4294967296) / 4294967296<18446744073709551616:=by omega
 have bh:x / 4294967296*(y / 4294967296)+(x / 4294967296*(y%4294967296)+x%4294967296*(y%4294967296) / 4294967296) / 4294967296+((x / 4294967296*(y%4294967296)+x%4294967296*(y%4294967296) / 4294967296)%4294967296+x%4294967296*(y / 4294967296)) / 4294967296<18446744073709551616:=by omega
 go_enter Tryz.func68,Tryz.ntmps68
 go_wp2
 simp only[MulK.maskN x hx,MulK.maskN y hy,MulK.divN,MulK.mulN,MulK.addN,MulK.wrapN _ bd,MulK.wrapN _ bb',MulK.wrapN _ bt,MulK.maskN _ bt,MulK.wrapN _ bc',MulK.wrapN _ bw,MulK.wrapN _ ba',MulK.wrapN _ bh1,MulK.wrapN _ bh,MulK.wrapM (x*y)]
 rw[hhi]
 go_ret2
 exact⟨rfl,rfl⟩
theorem zsW (W:World)(x y:Nat)(hx:x<18446744073709551616)(hy:y<18446744073709551616):
 zaw Tryz.prog W 68 [.int .u64 x,.int .u64 y] [] (.tuple #[.int .u64 ((x*y / 18446744073709551616:Nat):Int),.int .u64 ((x*y%18446744073709551616:Nat):Int)]):=
 ⟨⟨_,Tryz.func68,rfl,rfl⟩,fun h' hs w hw=>(mulK x y hx hy w).mono fun e w' ⟨he,hww⟩=>⟨he,by rw[hww];exact hw⟩⟩
end Go.Proofs.YteocfhdocpeokaaGreat
namespace Go.Proofs.YteocfhdocpeokaaGreat
open Go Go.Sl
attribute [local irreducible] AW ES Ld RetQ
set_option maxRecDepth 100000
def orI :List Int→Int
 |[]=>0
 |x::xs=>if x=0 then orI xs else x
theorem zln {xs:List Int}:∀{k:Nat},(∀(j:Nat) y,j<k→xs[j]? =some y→y=0)→orI xs=orI (xs.drop k):=by
 induction xs with
 |nil=>intro k _;simp
 |cons x xs ih=>
  intro k h
  cases k with
  |zero=>rfl
  |succ k=>
   have h0:=h 0 x (by omega) rfl
   subst h0
   simp only[orI,if_true,List.drop_succ_cons]
   exact ih (fun j y hj hy=>h (j+1) y (by omega) (by simpa using hy))
theorem zrt (W:World)(h:List zao)(A:Option Addr)(n c:Nat)(xs:List Int)(hn:xs.length=n)(hr:zaz W h A n 1 (xs.map (Value.int .i64)))(hb:n≤4611686018427387903):
 zaw Tryz.prog W 210 [.slice A n c] h (.int .i64 (orI xs)):=by
 refine zaw.of (fun h' hs=> ?_)
 have hr':=hr.mono hs
 refine zaf Tryz.func210 rfl rfl Tryz.results210 Tryz.ntmps210 rfl rfl ?_
 refine zaI hr' rfl (fun hA=> ?_)
 repeat' (first|apply zah|apply zaa|apply zaj|apply zag|apply zac hT;iterate 4 exact rfl)
 refine zbT (α:=Nat) (E:=fun k=>[(3,.int .i64 0),(6,.slice A n c),(7,.int .i64 n),(8,.int .i64 k)]) (H:=fun _=>h') (μ:=fun k=>n - k)
  (S:=fun k=>k≤n∧∀(j:Nat) y,j<k→xs[j]? =some y→y=0) 0 (J:=[]) ⟨Nat.zero_le _,fun j y hj=>by omega⟩ ⟨rfl,rfl,rfl,rfl,trivial⟩ (plr _) ?_
 rintro k ⟨hk1,hk2⟩
 by_cases hlt:k<n
 ·obtain⟨x,hx⟩:∃x,xs[k]? =some x:=⟨xs[k]'(by omega),gge (by omega)⟩
  have hx2:(xs.map (Value.int .i64))[(k:Int).toNat*1]? =some (.int .i64 x):=by simp[hx]
  have hA':=hA (by omega)
  repeat' (first|apply zah|apply zaa|apply zak|apply zam|apply zaj|apply zag|apply zac hT;iterate 4 exact rfl|(apply zaM hT;(iterate 4 exact rfl);(iterate 2 (first|omega)))|apply zaJ hT;(iterate 8 exact rfl);(iterate 2 omega);exact hA'|apply zad;(iterate 5 exact rfl);exact zbe hT rfl rfl hr' rfl hx2|(apply zal;exact rfl;all_goals(intro hb;(try dsimp only at hb);(try simp only[hb]);(first|replace hb:=odt hb|replace hb:=odf hb|replace hb:=zbc hb|replace hb:=zbd hb);(try omega))))
  ·have hx0:x≠0:=by simpa using hb
   have e1:xs[k]'(by omega)=x:=by
    have:=gge (show k<xs.length by omega)
    rw[hx]at this
    exact(Option.some.inj this).symm
   have e2:orI xs=x:=by rw[zln hk2,List.drop_eq_getElem_cons (by omega),orI,e1,if_neg hx0]
   apply zca (J:=[])
   ·exact rfl
   ·rw[e2]
   ·exact plr _
  ·have hx0:x=0:=by simpa using hb
   refine⟨k+1,[],by dsimp only;omega,⟨by omega,fun j y hj hy=> ?_⟩,⟨rfl,rfl,rfl,rfl,trivial⟩,plr _⟩
   by_cases hjk:j<k
   ·exact hk2 j y hjk hy
   ·have hjk':j=k:=by omega
    rw[hjk',hx]at hy;cases hy;exact hx0
 ·repeat' (first|apply zah|apply zaa|apply zak|apply zaN|apply zag|apply zac hT;iterate 4 exact rfl|(apply zal;exact rfl;all_goals(intro hb;(try dsimp only at hb);(try simp only[hb]);(first|replace hb:=odt hb|replace hb:=odf hb);(try omega))))
  exact zca (J:=[]) rfl (by rw[zln hk2,List.drop_of_length_le (by omega)];rfl) (plr _)
end Go.Proofs.YteocfhdocpeokaaGreat
namespace Go.Proofs.YteocfhdocpeokaaGreat
open Go Go.Sl
attribute [local irreducible] AW ES EP Ld RetQ
set_option maxRecDepth 100000
def ziF (n:Nat):List Value:=[.int .u64 ((n / 18446744073709551616:Nat):Int),.int .u64 ((n%18446744073709551616:Nat):Int)]
theorem zpc {n:Nat}{x y:Int}(hx:x=((n / 18446744073709551616:Nat):Int))(hy:y=((n%18446744073709551616:Nat):Int)):([.int .u64 x,.int .u64 y]:List Value)=ziF n:=by rw[hx,hy];rfl
def gotW (n:Option Nat):Value:=match n with
 |some n=>.tuple #[.agg (ziF n).toArray,.bool true]
 |none=>.tuple #[.agg (ziF 0).toArray,.bool false]
theorem zpd (x y:Nat)(w:World):(callFunc 248 #[.int .u64 x,.int .u64 y,.int .u64 0]).run Tryz.prog w=.ok (.value (.tuple #[.int .u64 (((x+y)%18446744073709551616:Nat):Int),.int .u64 (((x+y) / 18446744073709551616:Nat):Int)])) w:=by
 rw[run_callFunc_extern Tryz.func248 (by kernel_rfl) (by kernel_rfl) (by kernel_rfl) (e:=add64Entry) (by kernel_rfl),run_add64 x y 0 (by omega) (by omega) (by omega) (by omega)]
 simp only[Result.andThen]
 congr 5<;>omega
theorem zno (x y c:Nat)(hc:c≤1)(w:World):(callFunc 248 #[.int .u64 x,.int .u64 y,.int .u64 c]).run Tryz.prog w=.ok (.value (.tuple #[.int .u64 (((x+y+c)%18446744073709551616:Nat):Int),.int .u64 (((x+y+c) / 18446744073709551616:Nat):Int)])) w:=by
 rw[run_callFunc_extern Tryz.func248 (by kernel_rfl) (by kernel_rfl) (by kernel_rfl) (e:=add64Entry) (by kernel_rfl),run_add64 x y c (by omega) (by omega) (by omega) (by omega)]
 simp only[Result.andThen]
 congr 5<;>omega
theorem zgP (W:World)(a b:Nat)(ha:a≤9223372036854775807)(hb:b≤9223372036854775807):
 zaw Tryz.prog W 25 [.int .i64 a,.int .i64 b] [] (gotW (some (a*b))):=by
 refine zaw.ofD (fun h' hs=> ?_)
 have hm:=(zsW W a b (by omega) (by omega))
 refine zaf Tryz.func25 rfl rfl Tryz.results25 Tryz.ntmps25 rfl rfl ?_
 repeat' (first|apply zah|apply zaa|apply zak|apply zam|apply zag|apply zac hT;iterate 4 exact rfl|apply zay hT;(iterate 5 exact rfl);intro g4|apply zje hT;(iterate 4 exact rfl);(iterate 2 omega)|(apply zab (hs:=(hm.mono (by simp)));iterate 7 exact rfl)|apply zb8 hT;iterate 4 exact rfl|(apply zar hT;(iterate 6 exact rfl);exact sX;(iterate 3 exact rfl);exact nle rfl)|apply zan;iterate 2 exact rfl)
 all_goals first
  |(exfalso;omega)
  |(apply zeE;exact rfl;exact zaF hT rfl rfl mem0 rfl;exact rfl;exact⟨rfl,za5 zaX⟩)
theorem zpe (W:World)(m n:Nat)(hs:m+n<340282366920938463463374607431768211456):
 zaw Tryz.prog W 234 [.agg (ziF m).toArray,.agg (ziF n).toArray] [] (gotW (some (m+n))):=by
 refine zaw.ofD (fun h' _=> ?_)
 have h0:=zpd (m%18446744073709551616) (n%18446744073709551616)
 have h1:=zno (m / 18446744073709551616) (n / 18446744073709551616) ((m%18446744073709551616+n%18446744073709551616) / 18446744073709551616) (by omega)
 have hov:decide ((((m / 18446744073709551616+n / 18446744073709551616+(m%18446744073709551616+n%18446744073709551616) / 18446744073709551616) / 18446744073709551616:Nat):Int)>0)=false:=by simp;omega
 refine zaf Tryz.func234 rfl rfl Tryz.results234 Tryz.ntmps234 rfl rfl ?_
 repeat' (first|apply zah|apply zaa|apply zak|apply zam|apply zag|apply zac hT;iterate 4 exact rfl|apply zay hT;(iterate 5 exact rfl);intro g4|(apply zfe;(iterate 6 exact rfl);first|intro w _;exact h0 w|intro w _;exact h1 w)|(apply zb8 hT;iterate 4 exact rfl)|(apply zar hT;(iterate 6 exact rfl);exact sX;(iterate 3 exact rfl);exact nle rfl)|(apply zad;(iterate 5 exact rfl);first|(apply zaq hT;exact rfl;exact rfl;exact mX;exact rfl;exact rfl))|(apply zaA;(iterate 5 exact rfl);intro _)|(apply zal;exact rfl;all_goals(intro hb;(try dsimp only at hb);(try simp only[hb]);(first|replace hb:=odt hb|replace hb:=odf hb);(try omega))))
 all_goals first
  |(exfalso;omega)
  |(apply zeE;exact rfl;exact zaF hT rfl rfl mem0 rfl;exact rfl
    refine⟨?_,dX⟩
    show Value.tuple #[.agg (List.toArray [.int .u64 _,.int .u64 _]),.bool true]=_
    rw[gotW,zpc (n:=m+n) (by omega) (by omega)])
theorem zru (W:World)(x:Int):zaw Tryz.prog W 249 [.int .u64 x] [] (.bool false):=by
 refine zaw.of (fun h' hs=> ?_)
 refine zaf Tryz.func249 rfl rfl Tryz.results249 Tryz.ntmps249 rfl rfl ?_
 repeat' (first|apply zah|apply zaa|apply zak|apply zag|apply zac hT;iterate 4 exact rfl)
 exact zca (J:=[]) rfl (by simp) (plr _)
theorem cmpu (W:World)(x y:Int):zaw Tryz.prog W 235 [.int .u64 x,.int .u64 y] [] (.int .i64 (cmpI x y)):=by
 refine zaw.of (fun h' hs=> ?_)
 refine zaf Tryz.func235 rfl rfl Tryz.results235 Tryz.ntmps235 rfl rfl ?_
 repeat' (first|apply zah|apply zaa|apply zak|apply zam|apply zag|apply zac hT;iterate 4 exact rfl|(apply zab (hs:=((zru W _).mono (by simp)));iterate 7 exact rfl)|apply zan;iterate 2 exact rfl|(apply zal;exact rfl;all_goals(intro hb;(try dsimp only at hb);(try simp only[hb]);(first|replace hb:=odt hb|replace hb:=odf hb);(try omega))))
 ·exact zca (J:=[]) rfl (by simp[cmpI,hb]) (plr _)
 ·rename_i h1;exact zca (J:=[]) rfl (by simp[cmpI];omega) (plr _)
 ·rename_i h1;exact zca (J:=[]) rfl (by simp[cmpI];omega) (plr _)
def cmpW (m n:Nat):Int:=if m<n then -1 else if n<m then 1 else 0
theorem zqH (m n:Nat):orI [cmpI ((m / 18446744073709551616:Nat):Int) ((n / 18446744073709551616:Nat):Int),cmpI ((m%18446744073709551616:Nat):Int) ((n%18446744073709551616:Nat):Int)]=cmpW m n:=by
 unfold cmpW cmpI
 simp only[orI]
 split<;>(try split)<;>(try split)<;>(try split)<;>(try split)<;>(try split)<;>(try split)<;>omega
theorem zqI (W:World)(m n:Nat):zaw Tryz.prog W 216 [.agg (ziF m).toArray,.agg (ziF n).toArray] [] (.int .i64 (cmpW m n)):=by
 refine zaw.ofD (fun h' hs=> ?_)
 rw[←zqH]
 have hor:∀h g (x y:Int),zao.own (some ⟨g,0,none⟩) 2 2 3 1 [.int .i64 x,.int .i64 y]∈h→zaw Tryz.prog W 210 [.slice (some ⟨g,0,none⟩) 2 2] h (.int .i64 (orI [x,y])):=fun h g x y hm=>
  zrt W h _ 2 2 [x,y] rfl (zaz.own hm rfl (List.all_eq_true.1 (rfl:([.int .i64 x,.int .i64 y]:List Value).all Value.oneCell'=true))) (by omega)
 refine zaf Tryz.func216 rfl rfl Tryz.results216 Tryz.ntmps216 rfl rfl ?_
 repeat' (first|apply zah|apply zaa|apply zak|apply zag|apply zac hT;iterate 4 exact rfl|apply zaC [235] [] hmix;decide+kernel|(apply zab (hs:=((cmpu W _ _).mono (by simp)));iterate 7 exact rfl)|apply zaB hT;(iterate 12 exact rfl);intro g|apply zab (hs:=(hor _ _ _ _ mem0));iterate 7 exact rfl|(apply zad;(iterate 5 exact rfl);first|(apply zaq hT;exact rfl;exact rfl;exact mX;exact rfl;exact rfl))|apply zaA;(iterate 5 exact rfl);intro _)
 apply ret1;exact rfl
 exact⟨rfl,dX⟩
theorem zpf {α β:Type}{l:List α}{k:Nat}{x:α}(f:α→β)(h:l[k]? =some x):(l.take (k+1)).map f=(l.take k).map f++[f x]:=by
 rw[List.take_add_one,h,List.map_append];rfl
theorem znp {l:List (Int×Int)}(h:okP l)(k:Nat):totL (l.take k)≤totL l:=by
 have e:=zd0 (l.take k) (l.drop k)
 rw[List.take_append_drop]at e
 have:=zdc (l:=l.drop k) (fun x hx=>h x (List.mem_of_mem_drop hx))
 omega
theorem znq (W:World)(p:Nat)(A:Option Addr)(c:Nat)(l:List zap)(s:Int)(hB:za6 l):
 zaw Tryz.prog W 233 [.pointer (some ⟨p,0,none⟩),.int .i64 s] (za2 p A c l []) (.int .i64 (allS s l)):=by
 refine zaw.ofD (fun h' hs=> ?_)
 have m1:=hs _ mem0
 have m2:=hs _ mem1
 have hlev:=zdZ W h' p A c l s m1 m2 hB.le hB.seq hB.side hB.left
 obtain⟨hok,htot,_⟩:=zgM (hB.okS s)
 have hbd:=znn hB s
 have hvl:=zhV (za3 s l)
 have hsl:=zcW s l
 have hbl:=hB.len
 unfold allS at hbd ⊢
 rw[←htot]at hbd ⊢
 generalize za9 (za3 s l)=v at hlev hok hbd hvl ⊢
 refine zaf Tryz.func233 rfl rfl Tryz.results233 Tryz.ntmps233 rfl rfl ?_
 repeat' (first|apply zah|apply zaa|apply zaj|apply zag|apply zac hT;iterate 4 exact rfl|apply zau (hs:=hlev);(iterate 7 exact rfl);rintro _ _ ⟨AL,cL,rfl,rfl,hfL⟩)
 refine zbT (α:=Nat) (E:=fun k=>[(5,.int .i64 (totL ((v.take k).map pqL))),(10,.slice AL v.length cL),(11,.int .i64 v.length),(12,.int .i64 k)]) (H:=fun _=>.own AL v.length cL 134 2 (v.flatMap Lvl.enc)::h') (μ:=fun k=>v.length - k)
  (S:=fun k=>k≤v.length) 0 (J:=[]) (Nat.zero_le _) ⟨rfl,rfl,rfl,rfl,trivial⟩ (plr _) ?_
 intro k hk
 by_cases hlt:k<v.length
 ·obtain⟨x,hx⟩:∃x,v[k]? =some x:=⟨v[k]'(by omega),gge (by omega)⟩
  have hx2:v[(k:Int).toNat]? =some x:=by simpa using hx
  have hA:=hfL.some_ (by omega)
  have hd1:decide ((k:Int)<(v.length:Int))=true:=by simp;omega
  have hst:totL ((v.take (k+1)).map pqL)=totL ((v.take k).map pqL)+x.qty:=by
   rw[zpf pqL hx,zd0];simp[totL,pqL]
  have h1:=znp hok (k+1)
  have h2:=zdc (zfo hok k)
  have h3:=zdc (zfo hok (k+1))
  rw[←List.map_take]at h1 h2 h3
  rw[hst]at h1 h3
  repeat' (first|apply zah|apply zaa|apply zam|apply zaj|apply zag|apply zac hT;iterate 4 exact rfl|apply zaM hT;(iterate 4 exact rfl);(iterate 2 omega)|apply zaJ hT;(iterate 8 exact rfl);(iterate 2 omega);exact hA|apply zad;(iterate 5 exact rfl);exact zaO hT rfl rfl (hfL.reads mem0) Lvl.enc_len rfl hx2 rfl|apply zay hT;(iterate 5 exact rfl);intro g7|(apply zar hT;(iterate 6 exact rfl);exact sX;(iterate 3 exact rfl);exact nle rfl)|(apply zad;(iterate 5 exact rfl);first|(apply zaq hT;exact rfl;exact rfl;exact mX;exact rfl;exact rfl))|(apply zal;exact rfl;all_goals(intro hb;(try simp only[hb]);(first|replace hb:=odt hb|replace hb:=odf hb);(try omega))))
  all_goals first
   |(exfalso;omega)
   |exact zaD (k+1) (by(try dsimp only);omega) (by(try dsimp only);omega) ⟨by(try dsimp only);rw[hst];rfl,rfl,rfl,rfl,trivial⟩ (za5 zaX)
   |skip
 ·obtain rfl:k=v.length:=by omega
  have hd1:decide ((v.length:Int)<(v.length:Int))=false:=by simp
  rw[List.take_length]
  repeat' (first|apply zah|apply zaa|apply zak|apply zaN|apply zag|apply zac hT;iterate 4 exact rfl|(apply zal;exact rfl;all_goals(intro hb;(try simp only[hb]);(first|replace hb:=odt hb|replace hb:=odf hb);(try omega))))
  all_goals first
   |(exfalso;omega)
   |(apply ret1;exact rfl;exact⟨rfl,za5 zaX⟩)
theorem zhW (W:World)(a b:Int)(ha:0≤a∧a≤9223372036854775807)(hb:0≤b∧b≤9223372036854775807):
 zaw Tryz.prog W 25 [.int .i64 a,.int .i64 b] [] (gotW (some (a*b).toNat)):=by
 obtain⟨a,rfl⟩:=Int.eq_ofNat_of_zero_le ha.1
 obtain⟨b,rfl⟩:=Int.eq_ofNat_of_zero_le hb.1
 have:=zgP W a b (by omega) (by omega)
 rw[show((a:Int)*(b:Int)).toNat=a*b by rw[←Int.natCast_mul,Int.toNat_natCast]]
 exact this
theorem znr {l:List (Int×Int)}{k:Nat}{x:Int×Int}(hok:okP l)(hx:l[k]? =some x){q:Int}(hq:0≤q):
 zcl (l.take (k+1)) q=zcl (l.take k) q+x.1*min (q - min q (totL (l.take k))) x.2∧q - min q (totL (l.take (k+1)))=q - min q (totL (l.take k)) - min (q - min q (totL (l.take k))) x.2:=by
 have e:l.take (k+1)=l.take k++[x]:=by rw[List.take_add_one,hx];rfl
 have hok1:=zfo hok k
 have h1:=zdc hok1
 have h2:=(hok x (mog hx)).2.2
 refine⟨?_,?_⟩
 ·rw[e,zdG hok1 hq]
  show _+zcl [(x.1,x.2)] _=_
  rw[znl]
 ·rw[e,zd0]
  have:totL [x]=x.2:=by simp[totL]
  rw[this];omega
theorem zqJ {p n:Int}(h1:1≤p)(h2:p≤1000000)(h3:0≤n):0≤p*n∧p*n≤1000000*n:=
 ⟨Int.mul_nonneg (by omega) h3,Int.mul_le_mul_of_nonneg_right h2 h3⟩
theorem zkv (W:World)(p:Nat)(A:Option Addr)(c:Nat)(l:List zap)(s q:Int)(hB:za6 l):
 zaw Tryz.prog W 215 [.pointer (some ⟨p,0,none⟩),.int .i64 s,.int .i64 q] (za2 p A c l []) (gotW (zgO s l q)):=by
 refine zaw.ofD (fun h' hs=> ?_)
 have m1:=hs _ mem0
 have m2:=hs _ mem1
 have hlev:=fun X=>zdZ W (X::h') p A c l s (.tail _ m1) (.tail _ m2) hB.le hB.seq hB.side hB.left
 have hall:=(znq W p A c l s hB)
 obtain⟨hok,htot,hcost⟩:=zgM (hB.okS s)
 have hbd:=znn hB s
 have hvl:=zhV (za3 s l)
 have hsl:=zcW s l
 have hbl:=hB.len
 refine zaf Tryz.func215 rfl rfl Tryz.results215 Tryz.ntmps215 rfl rfl ?_
 by_cases hno:q<1∨allS s l<q
 ·have hv:zgO s l q=none:=by unfold zgO;rw[if_pos hno]
  rw[hv]
  repeat' (first|apply zah|apply zaa|apply zak|apply zag|apply zac hT;iterate 4 exact rfl|apply zaK;iterate 3 exact rfl|apply zay hT;(iterate 5 exact rfl);intro g6|apply zab (hs:=(hall.mono (zbz (.tail _ m1) (.tail _ m2))));iterate 7 exact rfl|apply zb8 hT;iterate 4 exact rfl|(apply zar hT;(iterate 6 exact rfl);exact sX;(iterate 3 exact rfl);exact nle rfl)|apply zas;iterate 2 exact rfl|(apply zaH;exact rfl;all_goals(intro hb;(try simp only[hb]);(first|replace hb:=odt hb|replace hb:=odf hb);(try omega)))|(apply zal;exact rfl;all_goals(intro hb;(try simp only[hb]);(first|replace hb:=odt hb|replace hb:=odf hb);(try omega))))
  all_goals first
   |(exfalso;omega)
   |(apply zeE;exact rfl;exact zaF hT rfl rfl mem0 rfl;exact rfl;exact⟨rfl,za5 zaX⟩)
 ·have hv:zgO s l q=some (zcl ((za9 (za3 s l)).map pqL) q).toNat:=by unfold zgO;rw[if_neg hno,hcost q (by omega)]
  rw[hv]
  have hq1:¬q<1:=fun h=>hno (.inl h)
  have hq2:q≤allS s l:=by
   rcases Int.lt_or_le (allS s l) q with h|h
   ·exact absurd (.inr h) hno
   ·exact h
  generalize hall':allS s l=al at hall hbd hq2
  unfold allS at hall'
  rw[←htot]at hall'
  generalize za9 (za3 s l)=v at hlev hok hvl hall' ⊢
  repeat' (first|apply zah|apply zaa|apply zam|apply zaj|apply zag|apply zac hT;iterate 4 exact rfl|apply zay hT;(iterate 5 exact rfl);intro g6|apply zab (hs:=(hall.mono (zbz (.tail _ m1) (.tail _ m2))));iterate 7 exact rfl|apply zau (hs:=(hlev _));(iterate 7 exact rfl);rintro _ _ ⟨AL,cL,rfl,rfl,hfL⟩|(apply zaH;exact rfl;all_goals(intro hb;(try simp only[hb]);(first|replace hb:=odt hb|replace hb:=odf hb);(try omega)))|(apply zal;exact rfl;all_goals(intro hb;(try simp only[hb]);(first|replace hb:=odt hb|replace hb:=odf hb);(try omega))))
  all_goals try omega
  refine zbT (α:=Nat) (E:=fun k=>[(2,.int .i64 (q - min q (totL ((v.map pqL).take k)))),(6,.pointer (some ⟨g6,0,none⟩)),(25,.slice AL v.length cL),(26,.int .i64 v.length),(27,.int .i64 k)])
   (H:=fun k=>.blk g6 75 (ziF (zcl ((v.map pqL).take k) q).toNat)::.own AL v.length cL 134 2 (v.flatMap Lvl.enc)::h') (μ:=fun k=>v.length - k)
   (S:=fun k=>k≤v.length) 0 (J:=[]) (Nat.zero_le _) ⟨by rw[List.take_zero,show q - min q (totL [])=q by simp[totL];omega];rfl,rfl,rfl,rfl,rfl,trivial⟩ (by rw[List.take_zero,show(zcl [] q).toNat=0 from rfl];exact sel1) ?_
  intro k hk
  by_cases hlt:k<v.length
  ·obtain⟨x,hx⟩:∃x,v[k]? =some x:=⟨v[k]'(by omega),gge (by omega)⟩
   have hx2:v[(k:Int).toNat]? =some x:=by simpa using hx
   have hA:=hfL.some_ (by omega)
   have hd1:decide ((k:Int)<(v.length:Int))=true:=by simp;omega
   have hxm:(v.map pqL)[k]? =some (x.price,x.qty):=by simp[hx,pqL]
   have hxo:=hok _ (mog hxm)
   obtain⟨st1,st2⟩:=znr hok hxm (q:=q) (by omega)
   dsimp only at st1 st2 hxo
   have hb0:=zku (zfo hok k) (q:=q) (by omega)
   have ht0:=zdc (zfo hok k)
   generalize zcl ((v.map pqL).take k) q=co at hb0 st1 ⊢
   generalize totL ((v.map pqL).take k)=tk at hb0 ht0 st1 st2 ⊢
   generalize hn:min (q - min q tk) x.qty=n at st1 st2
   have hsb:=zqJ (n:=n) hxo.1 hxo.2.1 (by omega)
   have hTm:=zhW W x.price n (by omega) (by omega)
   have hPl:=zpe W co.toNat (x.price*n).toNat (by omega)
   rw[show co.toNat+(x.price*n).toNat=(co+x.price*n).toNat by omega]at hPl
   repeat' (first|apply zah|apply zaa|apply zam|apply zaj|apply zag|apply zac hT;iterate 4 exact rfl|apply zaM hT;(iterate 4 exact rfl);(iterate 2 omega)|apply zaJ hT;(iterate 8 exact rfl);(iterate 2 omega);exact hA|apply zad;(iterate 5 exact rfl);exact zaO hT rfl rfl (hfL.reads mem1) Lvl.enc_len rfl hx2 rfl|apply zay hT;(iterate 5 exact rfl);intro g7|apply zla;(iterate 5 exact rfl);rw[hn]|(apply zab (hs:=(hTm.mono (by simp)));iterate 7 exact rfl)|(apply zab (hs:=(hPl.mono (by simp)));iterate 7 exact rfl)|(apply zar hT;(iterate 6 exact rfl);exact sX;(iterate 3 exact rfl);exact nle rfl)|(apply zad;(iterate 5 exact rfl);first|(apply zaq hT;exact rfl;exact rfl;exact mX;exact rfl;exact rfl)|(apply zaF hT;exact rfl;exact rfl;exact mX;exact rfl))|(apply zal;exact rfl;all_goals(intro hb;(try simp only[hb]);(first|replace hb:=odt hb|replace hb:=odf hb);(try omega))))
   all_goals first
    |(exfalso;omega)
    |(refine zaD (k+1) (by(try dsimp only);omega) (by(try dsimp only);omega) ⟨by(try dsimp only);rw[st2];rfl,rfl,rfl,rfl,rfl,trivial⟩ ?_
      (try dsimp only)
      rw[st1]
      apply zaQ;exact sX
      apply zaQ;exact sX
      exact dX)
    |skip
  ·obtain rfl:k=v.length:=by omega
   have hd1:decide ((v.length:Int)<(v.length:Int))=false:=by simp
   have e:(v.map pqL).take v.length=v.map pqL:=List.take_of_length_le (by simp)
   rw[e]
   repeat' (first|apply zah|apply zaa|apply zak|apply zaN|apply zag|apply zac hT;iterate 4 exact rfl|(apply zar hT;(iterate 6 exact rfl);exact sX;(iterate 3 exact rfl);exact nle rfl)|(apply zad;(iterate 5 exact rfl);first|(apply zaF hT;exact rfl;exact rfl;exact mX;exact rfl))|(apply zal;exact rfl;all_goals(intro hb;(try simp only[hb]);(first|replace hb:=odt hb|replace hb:=odf hb);(try omega))))
   all_goals first
    |(exfalso;omega)
    |(apply zeE;exact rfl;exact zaF hT rfl rfl mem0 rfl;exact rfl;exact⟨rfl,dX⟩)
    |skip
theorem zns {l:List zap}(h:∀o∈l,1≤o.left∧o.left≤1000000):0≤sumL l∧sumL l≤1000000*l.length:=by
 induction l with
 |nil=>simp[sumL]
 |cons x l ih=>
  have hx:=h x mcs
  have:=ih (fun y hy=>h y (mcm _ hy))
  simp only[sumL,List.map_cons,List.sum_cons,List.length_cons]at*
  omega
def zbS (s:Int):Int:=if isB s then 3 - s else 0
theorem zeT {s:Int}(h:isB s=true):s=1∨s=2:=by simpa [isB]using h
theorem zfV (W:World)(s:Int):zaw Tryz.prog W 214 [.int .i64 s] [] (.int .i64 (zbS s)):=by
 refine zaw.ofD (fun h' hs=> ?_)
 have hI:=zdx W s
 cases hb:isB s
 ·rw[hb]at hI
  refine zaf Tryz.func214 rfl rfl Tryz.results214 Tryz.ntmps214 rfl rfl ?_
  repeat' (first|apply zah|apply zaa|apply zak|apply zag|apply zac hT;iterate 4 exact rfl|(apply zab (hs:=(hI.mono (by simp)));iterate 7 exact rfl)|apply zas;iterate 2 exact rfl)
  apply ret1;exact rfl
  exact⟨by simp[zbS,hb],dX⟩
 ·rw[hb]at hI
  have h2:=zeT hb
  refine zaf Tryz.func214 rfl rfl Tryz.results214 Tryz.ntmps214 rfl rfl ?_
  repeat' (first|apply zah|apply zaa|apply zak|apply zam|apply zag|apply zac hT;iterate 4 exact rfl|apply zaM hT;(iterate 4 exact rfl);(iterate 2 omega)|(apply zab (hs:=(hI.mono (by simp)));iterate 7 exact rfl)|apply zan;iterate 2 exact rfl)
  apply ret1;exact rfl
  exact⟨by simp[zbS,hb],dX⟩
def zeJ (s price qty:Int)(l:List zap):Int:=if isB s=false∨price<1∨qty<1 then 1 else
 match zgO (zbS s) l qty with
 |none=>0
 |some m=>if (s=1∧m<(price*qty).toNat)∨(s=2∧(price*qty).toNat<m)then 13 else 0
theorem cmp3 (m n:Nat):(m<n∧cmpW m n= -1)∨(m=n∧cmpW m n=0)∨(n<m∧cmpW m n=1):=by
 unfold cmpW
 rcases Nat.lt_trichotomy m n with h|h|h
 ·exact .inl ⟨h,if_pos h⟩
 ·exact .inr (.inl ⟨h,by rw[if_neg (by omega),if_neg (by omega)]⟩)
 ·exact .inr (.inr ⟨h,by rw[if_neg (by omega),if_pos h]⟩)
theorem zl6 (W:World)(p:Nat)(A:Option Addr)(c:Nat)(l:List zap)(s price qty:Int)(hB:za6 l)(hp:price≤9223372036854775807)(hq:qty≤9223372036854775807):
 zaw Tryz.prog W 187 [.pointer (some ⟨p,0,none⟩),.int .i64 s,.int .i64 price,.int .i64 qty] (za2 p A c l []) (.int .i64 (zeJ s price qty l)):=by
 refine zaw.ofD (fun h' hs=> ?_)
 have m1:=hs _ mem0
 have m2:=hs _ mem1
 have hI:=zdx W s
 have hO:=zfV W s
 refine zaf Tryz.func187 rfl rfl Tryz.results187 Tryz.ntmps187 rfl rfl ?_
 cases hb:isB s
 ·rw[hb]at hI
  repeat' (first|apply zah|apply zaa|apply zak|apply zag|apply zac hT;iterate 4 exact rfl|apply zaK;iterate 3 exact rfl|(apply zab (hs:=(hI.mono (by simp)));iterate 7 exact rfl)|apply zas;iterate 2 exact rfl)
  apply ret1;exact rfl
  exact⟨by simp[zeJ,hb],dX⟩
 rw[hb]at hI
 have h2:=zeT hb
 by_cases hbad:price<1∨qty<1
 ·have hv:zeJ s price qty l=1:=by simp[zeJ,hb,hbad]
  rw[hv]
  repeat' (first|apply zah|apply zaa|apply zak|apply zag|apply zac hT;iterate 4 exact rfl|apply zaK;iterate 3 exact rfl|(apply zab (hs:=(hI.mono (by simp)));iterate 7 exact rfl)|apply zas;iterate 2 exact rfl|(apply zaH;exact rfl;all_goals(intro hb;(try simp only[hb]);(first|replace hb:=odt hb|replace hb:=odf hb);(try omega)))|(apply zal;exact rfl;all_goals(intro hb;(try simp only[hb]);(first|replace hb:=odt hb|replace hb:=odf hb);(try omega))))
  all_goals first
   |(exfalso;omega)
   |(apply ret1;exact rfl;exact⟨rfl,dX⟩)
 have hnb:¬(isB s=false∨price<1∨qty<1):=by rw[hb];simp;omega
 have hsw:=zkv W p A c l (zbS s) qty hB
 cases hm:zgO (zbS s) l qty with
 |none=>
  have hv:zeJ s price qty l=0:=by unfold zeJ;rw[if_neg hnb,hm]
  rw[hv]
  rw[hm]at hsw
  repeat' (first|apply zah|apply zaa|apply zak|apply zam|apply zag|apply zac hT;iterate 4 exact rfl|(apply zab (hs:=(hI.mono (by simp)));iterate 7 exact rfl)|(apply zab (hs:=(hO.mono (by simp)));iterate 7 exact rfl)|apply zab (hs:=(hsw.mono (zbz m1 m2)));iterate 7 exact rfl|apply zay hT;(iterate 5 exact rfl);intro g9|(apply zar hT;(iterate 6 exact rfl);exact sX;(iterate 3 exact rfl);exact nle rfl)|apply zas;iterate 2 exact rfl|(apply zaH;exact rfl;all_goals(intro hb;(try simp only[hb]);(first|replace hb:=odt hb|replace hb:=odf hb);(try omega)))|(apply zal;exact rfl;all_goals(intro hb;(try simp only[hb]);(first|replace hb:=odt hb|replace hb:=odf hb);(try omega))))
  all_goals first
   |(exfalso;omega)
   |(apply ret1;exact rfl;exact⟨rfl,dX⟩)
 |some m=>
  have hv:zeJ s price qty l=if (s=1∧m<(price*qty).toNat)∨(s=2∧(price*qty).toNat<m)then 13 else 0:=by unfold zeJ;rw[if_neg hnb,hm]
  rw[hv]
  rw[hm]at hsw
  have hT1:=zhW W price qty (by omega) (by omega)
  have hC:=zqI W m (price*qty).toNat
  obtain⟨n,hn⟩:∃n,(price*qty).toNat=n:=⟨_,rfl⟩
  rw[hn]at hT1 hC
  rcases cmp3 m n with ⟨c1,c2⟩|⟨c1,c2⟩|⟨c1,c2⟩
  all_goals
   rw[c2]at hC
   rcases h2 with rfl|rfl
   all_goals
    repeat' (first|apply zah|apply zaa|apply zak|apply zam|apply zag|apply zac hT;iterate 4 exact rfl|apply zaK;iterate 3 exact rfl|(apply zab (hs:=(hI.mono (by simp)));iterate 7 exact rfl)|(apply zab (hs:=(hO.mono (by simp)));iterate 7 exact rfl)|apply zab (hs:=(hsw.mono (zbz m1 m2)));iterate 7 exact rfl|(apply zab (hs:=(hT1.mono (by simp)));iterate 7 exact rfl)|(apply zab (hs:=(hC.mono (by simp)));iterate 7 exact rfl)|apply zay hT;(iterate 5 exact rfl);intro g9|(apply zar hT;(iterate 6 exact rfl);exact sX;(iterate 3 exact rfl);exact nle rfl)|(apply zad;(iterate 5 exact rfl);first|(apply zaF hT;exact rfl;exact rfl;exact mX;exact rfl))|apply zas;iterate 2 exact rfl|apply zan;iterate 2 exact rfl|(apply zaH;exact rfl;all_goals(intro hb;(try simp only[hb]);(first|replace hb:=odt hb|replace hb:=odf hb);(try omega)))|(apply zal;exact rfl;all_goals(intro hb;(try simp only[hb]);(first|replace hb:=odt hb|replace hb:=odf hb);(try omega))))
    all_goals first
     |(exfalso;omega)
     |(apply ret1;exact rfl
       refine⟨?_,dX⟩
       congr 1
       split<;>first|rfl|exfalso;rename_i hx;simp only[true_and]at hx;omega)
end Go.Proofs.YteocfhdocpeokaaGreat
