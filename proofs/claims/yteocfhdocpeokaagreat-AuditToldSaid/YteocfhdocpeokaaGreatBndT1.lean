/- The statements' walks, and what they stand on, joined into few texts: part 1. Conditions stand in each statement. -/
import Derived.Test.YteocfhdocpeokaaGreatBndT0
set_option maxHeartbeats 16000000
set_option linter.all false
namespace Go.Proofs.YteocfhdocpeokaaGreat
open Go Go.Sl
def ti2 :TI:=⟨.int .i64,1,8,.int .i64 0⟩
def ti3 :TI:=⟨.int .i64,1,8,.int .i64 0⟩
def ti4 :TI:=⟨.bool,1,1,.bool false⟩
def ti5 :TI:=⟨.int .u8,1,1,.int .u8 0⟩
def ti6 :TI:=⟨.int .u8,1,1,.int .u8 0⟩
def ti7 : TI := ⟨.struct #[⟨"x", 2, 0, false, "", "runtime", 0⟩, ⟨"y", 3, 1, false, "", "runtime", 8⟩, ⟨"signed", 4, 2, false, "", "runtime", 16⟩, ⟨"code", 6, 3, false, "", "runtime", 17⟩], 4, 24, .agg #[.int .i64 0, .int .i64 0, .bool false, .int .u8 0]⟩
def ti8 : TI := ⟨.struct #[⟨"x", 2, 0, false, "", "runtime", 0⟩, ⟨"y", 3, 1, false, "", "runtime", 8⟩, ⟨"signed", 4, 2, false, "", "runtime", 16⟩, ⟨"code", 6, 3, false, "", "runtime", 17⟩], 4, 24, .agg #[.int .i64 0, .int .i64 0, .bool false, .int .u8 0]⟩
def ti9 :TI:=⟨.string,1,16,.string ⟨#[]⟩⟩
def ti10 :TI:=⟨.string,1,16,.string ⟨#[]⟩⟩
def ti11 :TI:=⟨.string,1,16,.string ⟨#[]⟩⟩
def ti12 :TI:=⟨.int .u64,1,8,.int .u64 0⟩
def ti13 : TI := ⟨.struct #[⟨"msg", 9, 0, false, "", "runtime", 0⟩, ⟨"addr", 12, 1, false, "", "runtime", 16⟩], 2, 24, .agg #[.string ⟨#[]⟩, .int .u64 0]⟩
def ti14 : TI := ⟨.struct #[⟨"msg", 9, 0, false, "", "runtime", 0⟩, ⟨"addr", 12, 1, false, "", "runtime", 16⟩], 2, 24, .agg #[.string ⟨#[]⟩, .int .u64 0]⟩
def ti15 :TI:=⟨.pointer 315,1,8,.pointer none⟩
def ti16 :TI:=⟨.pointer 318,1,8,.pointer none⟩
def ti17 :TI:=⟨.pointer 326,1,8,.pointer none⟩
def ti18 : TI := ⟨.struct #[⟨"typ", 17, 0, false, "", "internal/runtime/maps", 0⟩], 1, 8, .agg #[.pointer none]⟩
def ti19 : TI := ⟨.struct #[⟨"typ", 17, 0, false, "", "internal/runtime/maps", 0⟩], 1, 8, .agg #[.pointer none]⟩
def ti21 :TI:=⟨.int .i32,1,4,.int .i32 0⟩
def ti22 :TI:=⟨.slice 30,1,24,.slice none 0 0⟩
def ti23 :TI:=⟨.pointer 69,1,8,.pointer none⟩
def ti25 :TI:=⟨.pointer 71,1,8,.pointer none⟩
def ti27 :TI:=⟨.int .i64,1,8,.int .i64 0⟩
def ti29 : TI := ⟨.struct #[⟨"ID", 2, 0, false, "", "", 0⟩, ⟨"Bond", 3, 1, false, "", "", 8⟩, ⟨"Buyer", 3, 2, false, "", "", 16⟩, ⟨"Seller", 3, 3, false, "", "", 24⟩, ⟨"Price", 2, 4, false, "", "", 32⟩, ⟨"Qty", 2, 5, false, "", "", 40⟩, ⟨"Ask", 2, 6, false, "", "", 48⟩, ⟨"Tick", 2, 7, false, "", "", 56⟩], 8, 64, .agg #[.int .i64 0, .int .i64 0, .int .i64 0, .int .i64 0, .int .i64 0, .int .i64 0, .int .i64 0, .int .i64 0]⟩
def ti30 : TI := ⟨.struct #[⟨"ID", 2, 0, false, "", "", 0⟩, ⟨"Bond", 3, 1, false, "", "", 8⟩, ⟨"Buyer", 3, 2, false, "", "", 16⟩, ⟨"Seller", 3, 3, false, "", "", 24⟩, ⟨"Price", 2, 4, false, "", "", 32⟩, ⟨"Qty", 2, 5, false, "", "", 40⟩, ⟨"Ask", 2, 6, false, "", "", 48⟩, ⟨"Tick", 2, 7, false, "", "", 56⟩], 8, 64, .agg #[.int .i64 0, .int .i64 0, .int .i64 0, .int .i64 0, .int .i64 0, .int .i64 0, .int .i64 0, .int .i64 0]⟩
def ti36 :TI:=⟨.slice 39,1,24,.slice none 0 0⟩
def ti37 :TI:=⟨.slice 44,1,24,.slice none 0 0⟩
def ti39 :TI:=⟨.slice 42,1,24,.slice none 0 0⟩
def ti40 :TI:=⟨.array 6 2,6,48,.agg #[.int .i64 0,.int .i64 0,.int .i64 0,.int .i64 0,.int .i64 0,.int .i64 0]⟩
def ti41 : TI := ⟨.struct #[⟨"Kind", 3, 0, false, "", "", 0⟩, ⟨"F", 40, 1, false, "", "", 8⟩], 7, 56, .agg #[.int .i64 0, .int .i64 0, .int .i64 0, .int .i64 0, .int .i64 0, .int .i64 0, .int .i64 0]⟩
def ti42 : TI := ⟨.struct #[⟨"Kind", 3, 0, false, "", "", 0⟩, ⟨"F", 40, 1, false, "", "", 8⟩], 7, 56, .agg #[.int .i64 0, .int .i64 0, .int .i64 0, .int .i64 0, .int .i64 0, .int .i64 0, .int .i64 0]⟩
def ti43 : TI := ⟨.struct #[⟨"To", 3, 0, false, "", "", 0⟩, ⟨"Msg", 42, 1, false, "", "", 8⟩], 8, 64, .agg #[.int .i64 0, .int .i64 0, .int .i64 0, .int .i64 0, .int .i64 0, .int .i64 0, .int .i64 0, .int .i64 0]⟩
def ti44 : TI := ⟨.struct #[⟨"To", 3, 0, false, "", "", 0⟩, ⟨"Msg", 42, 1, false, "", "", 8⟩], 8, 64, .agg #[.int .i64 0, .int .i64 0, .int .i64 0, .int .i64 0, .int .i64 0, .int .i64 0, .int .i64 0, .int .i64 0]⟩
def ti46 :TI:=⟨.slice 73,1,24,.slice none 0 0⟩
def ti49 :TI:=⟨.slice 59,1,24,.slice none 0 0⟩
def ti50 :TI:=⟨.slice 95,1,24,.slice none 0 0⟩
def ti51 :TI:=⟨.slice 97,1,24,.slice none 0 0⟩
def ti52 : TI := ⟨.struct #[⟨"Bonds", 50, 0, false, "", "", 0⟩, ⟨"Parties", 51, 1, false, "", "", 24⟩, ⟨"Look", 2, 2, false, "", "", 48⟩, ⟨"Beat", 2, 3, false, "", "", 56⟩], 4, 64, .agg #[.slice none 0 0, .slice none 0 0, .int .i64 0, .int .i64 0]⟩
def ti53 : TI := ⟨.struct #[⟨"Bonds", 50, 0, false, "", "", 0⟩, ⟨"Parties", 51, 1, false, "", "", 24⟩, ⟨"Look", 2, 2, false, "", "", 48⟩, ⟨"Beat", 2, 3, false, "", "", 56⟩], 4, 64, .agg #[.slice none 0 0, .slice none 0 0, .int .i64 0, .int .i64 0]⟩
def ti55 :TI:=⟨.pointer 112,1,8,.pointer none⟩
def ti58 : TI := ⟨.struct #[⟨"Kind", 3, 0, false, "", "", 0⟩, ⟨"Who", 3, 1, false, "", "", 8⟩, ⟨"N", 2, 2, false, "", "", 16⟩, ⟨"Msg", 42, 3, false, "", "", 24⟩], 10, 80, .agg #[.int .i64 0, .int .i64 0, .int .i64 0, .int .i64 0, .int .i64 0, .int .i64 0, .int .i64 0, .int .i64 0, .int .i64 0, .int .i64 0]⟩
def ti59 : TI := ⟨.struct #[⟨"Kind", 3, 0, false, "", "", 0⟩, ⟨"Who", 3, 1, false, "", "", 8⟩, ⟨"N", 2, 2, false, "", "", 16⟩, ⟨"Msg", 42, 3, false, "", "", 24⟩], 10, 80, .agg #[.int .i64 0, .int .i64 0, .int .i64 0, .int .i64 0, .int .i64 0, .int .i64 0, .int .i64 0, .int .i64 0, .int .i64 0, .int .i64 0]⟩
def ti62 :TI:=⟨.slice 87,1,24,.slice none 0 0⟩
def ti66 :TI:=⟨.slice 2,1,24,.slice none 0 0⟩
def ti67 :TI:=⟨.slice 66,1,24,.slice none 0 0⟩
def ti68 : TI := ⟨.struct #[⟨"bonds", 67, 0, false, "", "consols/pos", 0⟩, ⟨"cash", 66, 1, false, "", "consols/pos", 24⟩], 2, 48, .agg #[.slice none 0 0, .slice none 0 0]⟩
def ti69 : TI := ⟨.struct #[⟨"bonds", 67, 0, false, "", "consols/pos", 0⟩, ⟨"cash", 66, 1, false, "", "consols/pos", 24⟩], 2, 48, .agg #[.slice none 0 0, .slice none 0 0]⟩
def ti70 : TI := ⟨.struct #[⟨"B", 67, 0, false, "", "", 0⟩, ⟨"C", 66, 1, false, "", "", 24⟩], 2, 48, .agg #[.slice none 0 0, .slice none 0 0]⟩
def ti71 : TI := ⟨.struct #[⟨"B", 67, 0, false, "", "", 0⟩, ⟨"C", 66, 1, false, "", "", 24⟩], 2, 48, .agg #[.slice none 0 0, .slice none 0 0]⟩
def ti73 :TI:=⟨.int .u64,1,8,.int .u64 0⟩
def ti74 : TI := ⟨.struct #[⟨"Hi", 73, 0, false, "", "", 0⟩, ⟨"Lo", 73, 1, false, "", "", 8⟩], 2, 16, .agg #[.int .u64 0, .int .u64 0]⟩
def ti75 : TI := ⟨.struct #[⟨"Hi", 73, 0, false, "", "", 0⟩, ⟨"Lo", 73, 1, false, "", "", 8⟩], 2, 16, .agg #[.int .u64 0, .int .u64 0]⟩
def ti86 : TI := ⟨.struct #[⟨"ID", 2, 0, false, "", "", 0⟩, ⟨"Client", 3, 1, false, "", "", 8⟩, ⟨"Bond", 3, 2, false, "", "", 16⟩, ⟨"Side", 3, 3, false, "", "", 24⟩, ⟨"Qty", 2, 4, false, "", "", 32⟩, ⟨"Dealers", 73, 5, false, "", "", 40⟩, ⟨"Ends", 2, 6, false, "", "", 48⟩, ⟨"Until", 2, 7, false, "", "", 56⟩, ⟨"State", 3, 8, false, "", "", 64⟩, ⟨"Hit", 2, 9, false, "", "", 72⟩], 10, 80, .agg #[.int .i64 0, .int .i64 0, .int .i64 0, .int .i64 0, .int .i64 0, .int .u64 0, .int .i64 0, .int .i64 0, .int .i64 0, .int .i64 0]⟩
def ti87 : TI := ⟨.struct #[⟨"ID", 2, 0, false, "", "", 0⟩, ⟨"Client", 3, 1, false, "", "", 8⟩, ⟨"Bond", 3, 2, false, "", "", 16⟩, ⟨"Side", 3, 3, false, "", "", 24⟩, ⟨"Qty", 2, 4, false, "", "", 32⟩, ⟨"Dealers", 73, 5, false, "", "", 40⟩, ⟨"Ends", 2, 6, false, "", "", 48⟩, ⟨"Until", 2, 7, false, "", "", 56⟩, ⟨"State", 3, 8, false, "", "", 64⟩, ⟨"Hit", 2, 9, false, "", "", 72⟩], 10, 80, .agg #[.int .i64 0, .int .i64 0, .int .i64 0, .int .i64 0, .int .i64 0, .int .u64 0, .int .i64 0, .int .i64 0, .int .i64 0, .int .i64 0]⟩
def ti92 :TI:=⟨.slice 5,1,24,.slice none 0 0⟩
def ti94 : TI := ⟨.struct #[⟨"Tick", 2, 0, false, "", "", 0⟩, ⟨"Lot", 2, 1, false, "", "", 8⟩, ⟨"Min", 2, 2, false, "", "", 16⟩, ⟨"Max", 2, 3, false, "", "", 24⟩, ⟨"Low", 2, 4, false, "", "", 32⟩, ⟨"High", 2, 5, false, "", "", 40⟩, ⟨"Halted", 4, 6, false, "", "", 48⟩], 7, 56, .agg #[.int .i64 0, .int .i64 0, .int .i64 0, .int .i64 0, .int .i64 0, .int .i64 0, .bool false]⟩
def ti95 : TI := ⟨.struct #[⟨"Tick", 2, 0, false, "", "", 0⟩, ⟨"Lot", 2, 1, false, "", "", 8⟩, ⟨"Min", 2, 2, false, "", "", 16⟩, ⟨"Max", 2, 3, false, "", "", 24⟩, ⟨"Low", 2, 4, false, "", "", 32⟩, ⟨"High", 2, 5, false, "", "", 40⟩, ⟨"Halted", 4, 6, false, "", "", 48⟩], 7, 56, .agg #[.int .i64 0, .int .i64 0, .int .i64 0, .int .i64 0, .int .i64 0, .int .i64 0, .bool false]⟩
def ti96 : TI := ⟨.struct #[⟨"Role", 3, 0, false, "", "", 0⟩, ⟨"Asks", 73, 1, false, "", "", 8⟩, ⟨"Cap", 2, 2, false, "", "", 16⟩], 3, 24, .agg #[.int .i64 0, .int .u64 0, .int .i64 0]⟩
def ti97 : TI := ⟨.struct #[⟨"Role", 3, 0, false, "", "", 0⟩, ⟨"Asks", 73, 1, false, "", "", 8⟩, ⟨"Cap", 2, 2, false, "", "", 16⟩], 3, 24, .agg #[.int .i64 0, .int .u64 0, .int .i64 0]⟩
def ti98 :TI:=⟨.pointer 139,1,8,.pointer none⟩
def ti102 :TI:=⟨.pointer 142,1,8,.pointer none⟩
def ti104 :TI:=⟨.pointer 144,1,8,.pointer none⟩
def ti106 :TI:=⟨.pointer 147,1,8,.pointer none⟩
def ti108 :TI:=⟨.pointer 149,1,8,.pointer none⟩
def ti110 :TI:=⟨.slice 113,1,24,.slice none 0 0⟩
def ti111 : TI := ⟨.struct #[⟨"rules", 53, 0, false, "", "consols/desk", 0⟩, ⟨"now", 2, 4, false, "", "consols/desk", 64⟩, ⟨"books", 110, 5, false, "", "consols/desk", 72⟩, ⟨"firm", 98, 6, false, "", "consols/desk", 96⟩, ⟨"quotes", 102, 7, false, "", "consols/desk", 104⟩, ⟨"asks", 104, 8, false, "", "consols/desk", 112⟩, ⟨"due", 106, 9, false, "", "consols/desk", 120⟩, ⟨"pos", 23, 10, false, "", "consols/desk", 128⟩, ⟨"blot", 108, 11, false, "", "consols/desk", 136⟩, ⟨"order", 2, 12, false, "", "consols/desk", 144⟩, ⟨"seq", 2, 13, false, "", "consols/desk", 152⟩, ⟨"quote", 2, 14, false, "", "consols/desk", 160⟩, ⟨"ask", 2, 15, false, "", "consols/desk", 168⟩], 16, 176, .agg #[.slice none 0 0, .slice none 0 0, .int .i64 0, .int .i64 0, .int .i64 0, .slice none 0 0, .pointer none, .pointer none, .pointer none, .pointer none, .pointer none, .pointer none, .int .i64 0, .int .i64 0, .int .i64 0, .int .i64 0]⟩
def ti112 : TI := ⟨.struct #[⟨"rules", 53, 0, false, "", "consols/desk", 0⟩, ⟨"now", 2, 4, false, "", "consols/desk", 64⟩, ⟨"books", 110, 5, false, "", "consols/desk", 72⟩, ⟨"firm", 98, 6, false, "", "consols/desk", 96⟩, ⟨"quotes", 102, 7, false, "", "consols/desk", 104⟩, ⟨"asks", 104, 8, false, "", "consols/desk", 112⟩, ⟨"due", 106, 9, false, "", "consols/desk", 120⟩, ⟨"pos", 23, 10, false, "", "consols/desk", 128⟩, ⟨"blot", 108, 11, false, "", "consols/desk", 136⟩, ⟨"order", 2, 12, false, "", "consols/desk", 144⟩, ⟨"seq", 2, 13, false, "", "consols/desk", 152⟩, ⟨"quote", 2, 14, false, "", "consols/desk", 160⟩, ⟨"ask", 2, 15, false, "", "consols/desk", 168⟩], 16, 176, .agg #[.slice none 0 0, .slice none 0 0, .int .i64 0, .int .i64 0, .int .i64 0, .slice none 0 0, .pointer none, .pointer none, .pointer none, .pointer none, .pointer none, .pointer none, .int .i64 0, .int .i64 0, .int .i64 0, .int .i64 0]⟩
def ti113 :TI:=⟨.pointer 152,1,8,.pointer none⟩
def ti123 :TI:=⟨.map 2 4,1,8,.map none⟩
def ti130 :TI:=⟨.int .u64,1,8,.int .u64 0⟩
def ti131 :TI:=⟨.slice 134,1,24,.slice none 0 0⟩
def ti133 : TI := ⟨.struct #[⟨"Price", 2, 0, false, "", "", 0⟩, ⟨"Qty", 2, 1, false, "", "", 8⟩], 2, 16, .agg #[.int .i64 0, .int .i64 0]⟩
def ti134 : TI := ⟨.struct #[⟨"Price", 2, 0, false, "", "", 0⟩, ⟨"Qty", 2, 1, false, "", "", 8⟩], 2, 16, .agg #[.int .i64 0, .int .i64 0]⟩
def ti138 : TI := ⟨.struct #[⟨"l", 51, 0, false, "", "consols/firm", 0⟩, ⟨"used", 66, 1, false, "", "consols/firm", 24⟩], 2, 48, .agg #[.slice none 0 0, .slice none 0 0]⟩
def ti139 : TI := ⟨.struct #[⟨"l", 51, 0, false, "", "consols/firm", 0⟩, ⟨"used", 66, 1, false, "", "consols/firm", 24⟩], 2, 48, .agg #[.slice none 0 0, .slice none 0 0]⟩
def ti140 :TI:=⟨.slice 174,1,24,.slice none 0 0⟩
def ti141 : TI := ⟨.struct #[⟨"l", 140, 0, false, "", "consols/quote", 0⟩], 1, 24, .agg #[.slice none 0 0]⟩
def ti142 : TI := ⟨.struct #[⟨"l", 140, 0, false, "", "consols/quote", 0⟩], 1, 24, .agg #[.slice none 0 0]⟩
def ti143 : TI := ⟨.struct #[⟨"l", 62, 0, false, "", "consols/ask", 0⟩], 1, 24, .agg #[.slice none 0 0]⟩
def ti144 : TI := ⟨.struct #[⟨"l", 62, 0, false, "", "consols/ask", 0⟩], 1, 24, .agg #[.slice none 0 0]⟩
def ti145 :TI:=⟨.slice 160,1,24,.slice none 0 0⟩
def ti146 : TI := ⟨.struct #[⟨"l", 145, 0, false, "", "consols/due", 0⟩], 1, 24, .agg #[.slice none 0 0]⟩
def ti147 : TI := ⟨.struct #[⟨"l", 145, 0, false, "", "consols/due", 0⟩], 1, 24, .agg #[.slice none 0 0]⟩
def ti148 : TI := ⟨.struct #[⟨"l", 22, 0, false, "", "consols/blot", 0⟩, ⟨"head", 73, 1, false, "", "consols/blot", 24⟩], 2, 32, .agg #[.slice none 0 0, .int .u64 0]⟩
def ti149 : TI := ⟨.struct #[⟨"l", 22, 0, false, "", "consols/blot", 0⟩, ⟨"head", 73, 1, false, "", "consols/blot", 24⟩], 2, 32, .agg #[.slice none 0 0, .int .u64 0]⟩
def ti150 :TI:=⟨.slice 168,1,24,.slice none 0 0⟩
def ti151 : TI := ⟨.struct #[⟨"l", 150, 0, false, "", "consols/book", 0⟩], 1, 24, .agg #[.slice none 0 0]⟩
def ti152 : TI := ⟨.struct #[⟨"l", 150, 0, false, "", "consols/book", 0⟩], 1, 24, .agg #[.slice none 0 0]⟩
def ti153 :TI:=⟨.pointer 155,1,8,.pointer none⟩
def ti154 : TI := ⟨.struct #[⟨"who", 3, 0, false, "", "consols/desk", 0⟩, ⟨"id", 2, 1, false, "", "consols/desk", 8⟩, ⟨"l", 37, 2, false, "", "consols/desk", 16⟩], 3, 40, .agg #[.int .i64 0, .int .i64 0, .slice none 0 0]⟩
def ti155 : TI := ⟨.struct #[⟨"who", 3, 0, false, "", "consols/desk", 0⟩, ⟨"id", 2, 1, false, "", "consols/desk", 8⟩, ⟨"l", 37, 2, false, "", "consols/desk", 16⟩], 3, 40, .agg #[.int .i64 0, .int .i64 0, .slice none 0 0]⟩
def ti159 : TI := ⟨.struct #[⟨"Tick", 2, 0, false, "", "", 0⟩, ⟨"Kind", 3, 1, false, "", "", 8⟩, ⟨"ID", 2, 2, false, "", "", 16⟩], 3, 24, .agg #[.int .i64 0, .int .i64 0, .int .i64 0]⟩
def ti160 : TI := ⟨.struct #[⟨"Tick", 2, 0, false, "", "", 0⟩, ⟨"Kind", 3, 1, false, "", "", 8⟩, ⟨"ID", 2, 2, false, "", "", 16⟩], 3, 24, .agg #[.int .i64 0, .int .i64 0, .int .i64 0]⟩
def ti165 :TI:=⟨.slice 3,1,24,.slice none 0 0⟩
def ti167 : TI := ⟨.struct #[⟨"ID", 2, 0, false, "", "", 0⟩, ⟨"Seq", 2, 1, false, "", "", 8⟩, ⟨"Owner", 3, 2, false, "", "", 16⟩, ⟨"Side", 3, 3, false, "", "", 24⟩, ⟨"Price", 2, 4, false, "", "", 32⟩, ⟨"Left", 2, 5, false, "", "", 40⟩], 6, 48, .agg #[.int .i64 0, .int .i64 0, .int .i64 0, .int .i64 0, .int .i64 0, .int .i64 0]⟩
def ti168 : TI := ⟨.struct #[⟨"ID", 2, 0, false, "", "", 0⟩, ⟨"Seq", 2, 1, false, "", "", 8⟩, ⟨"Owner", 3, 2, false, "", "", 16⟩, ⟨"Side", 3, 3, false, "", "", 24⟩, ⟨"Price", 2, 4, false, "", "", 32⟩, ⟨"Left", 2, 5, false, "", "", 40⟩], 6, 48, .agg #[.int .i64 0, .int .i64 0, .int .i64 0, .int .i64 0, .int .i64 0, .int .i64 0]⟩
def ti173 : TI := ⟨.struct #[⟨"ID", 2, 0, false, "", "", 0⟩, ⟨"Ask", 2, 1, false, "", "", 8⟩, ⟨"Dealer", 3, 2, false, "", "", 16⟩, ⟨"Price", 2, 3, false, "", "", 24⟩, ⟨"Expires", 2, 4, false, "", "", 32⟩, ⟨"Live", 4, 5, false, "", "", 40⟩], 6, 48, .agg #[.int .i64 0, .int .i64 0, .int .i64 0, .int .i64 0, .int .i64 0, .bool false]⟩
def ti174 : TI := ⟨.struct #[⟨"ID", 2, 0, false, "", "", 0⟩, ⟨"Ask", 2, 1, false, "", "", 8⟩, ⟨"Dealer", 3, 2, false, "", "", 16⟩, ⟨"Price", 2, 3, false, "", "", 24⟩, ⟨"Expires", 2, 4, false, "", "", 32⟩, ⟨"Live", 4, 5, false, "", "", 40⟩], 6, 48, .agg #[.int .i64 0, .int .i64 0, .int .i64 0, .int .i64 0, .int .i64 0, .bool false]⟩
def ti233 :TI:=⟨.pointer 87,1,8,.pointer none⟩
def ti247 :TI:=⟨.pointer 174,1,8,.pointer none⟩
def ti261 :TI:=⟨.int .i64,1,8,.int .i64 0⟩
def ti268 :TI:=⟨.int .u32,1,4,.int .u32 0⟩
def ti270 :TI:=⟨.slice 277,1,24,.slice none 0 0⟩
def ti271 :TI:=⟨.slice 275,1,24,.slice none 0 0⟩
def ti274 : TI := ⟨.struct #[⟨"ID", 2, 0, false, "", "", 0⟩, ⟨"Owner", 3, 1, false, "", "", 8⟩, ⟨"Left", 2, 2, false, "", "", 16⟩], 3, 24, .agg #[.int .i64 0, .int .i64 0, .int .i64 0]⟩
def ti275 : TI := ⟨.struct #[⟨"ID", 2, 0, false, "", "", 0⟩, ⟨"Owner", 3, 1, false, "", "", 8⟩, ⟨"Left", 2, 2, false, "", "", 16⟩], 3, 24, .agg #[.int .i64 0, .int .i64 0, .int .i64 0]⟩
def ti276 : TI := ⟨.struct #[⟨"Maker", 2, 0, false, "", "", 0⟩, ⟨"Taker", 2, 1, false, "", "", 8⟩, ⟨"MakerParty", 3, 2, false, "", "", 16⟩, ⟨"TakerParty", 3, 3, false, "", "", 24⟩, ⟨"Price", 2, 4, false, "", "", 32⟩, ⟨"Qty", 2, 5, false, "", "", 40⟩, ⟨"Left", 2, 6, false, "", "", 48⟩], 7, 56, .agg #[.int .i64 0, .int .i64 0, .int .i64 0, .int .i64 0, .int .i64 0, .int .i64 0, .int .i64 0]⟩
def ti277 : TI := ⟨.struct #[⟨"Maker", 2, 0, false, "", "", 0⟩, ⟨"Taker", 2, 1, false, "", "", 8⟩, ⟨"MakerParty", 3, 2, false, "", "", 16⟩, ⟨"TakerParty", 3, 3, false, "", "", 24⟩, ⟨"Price", 2, 4, false, "", "", 32⟩, ⟨"Qty", 2, 5, false, "", "", 40⟩, ⟨"Left", 2, 6, false, "", "", 48⟩], 7, 56, .agg #[.int .i64 0, .int .i64 0, .int .i64 0, .int .i64 0, .int .i64 0, .int .i64 0, .int .i64 0]⟩
def ti289 :TI:=⟨.int .u64,1,8,.int .u64 0⟩
def ti292 :TI:=⟨.pointer 3,1,8,.pointer none⟩
def ti297 :TI:=⟨.pointer 168,1,8,.pointer none⟩
def ti301 :TI:=⟨.pointer 289,1,8,.pointer none⟩
def ti314 : TI := ⟨.struct #[⟨"_interface", 17, 0, false, "", "runtime", 0⟩, ⟨"concrete", 17, 1, false, "", "runtime", 8⟩, ⟨"asserted", 17, 2, false, "", "runtime", 16⟩, ⟨"missingMethod", 9, 3, false, "", "runtime", 24⟩], 4, 40, .agg #[.pointer none, .pointer none, .pointer none, .string ⟨#[]⟩]⟩
def ti315 : TI := ⟨.struct #[⟨"_interface", 17, 0, false, "", "runtime", 0⟩, ⟨"concrete", 17, 1, false, "", "runtime", 8⟩, ⟨"asserted", 17, 2, false, "", "runtime", 16⟩, ⟨"missingMethod", 9, 3, false, "", "runtime", 24⟩], 4, 40, .agg #[.pointer none, .pointer none, .pointer none, .string ⟨#[]⟩]⟩
def ti319 :TI:=⟨.int .u8,1,1,.int .u8 0⟩
def ti320 :TI:=⟨.int .u8,1,1,.int .u8 0⟩
def ti322 :TI:=⟨.pointer 5,1,8,.pointer none⟩
def ti323 :TI:=⟨.int .i32,1,4,.int .i32 0⟩
def ti324 :TI:=⟨.int .i32,1,4,.int .i32 0⟩
def ti325 : TI := ⟨.struct #[⟨"Size_", 12, 0, false, "", "", 0⟩, ⟨"PtrBytes", 12, 1, false, "", "", 8⟩, ⟨"Hash", 268, 2, false, "", "", 16⟩, ⟨"TFlag", 319, 3, false, "", "", 20⟩, ⟨"Align_", 5, 4, false, "", "", 21⟩, ⟨"FieldAlign_", 5, 5, false, "", "", 22⟩, ⟨"Kind_", 320, 6, false, "", "", 23⟩, ⟨"Equal", 321, 7, false, "", "", 24⟩, ⟨"GCData", 322, 8, false, "", "", 32⟩, ⟨"Str", 323, 9, false, "", "", 40⟩, ⟨"PtrToThis", 324, 10, false, "", "", 44⟩], 11, 48, .agg #[.int .u64 0, .int .u64 0, .int .u32 0, .int .u8 0, .int .u8 0, .int .u8 0, .int .u8 0, .nilFunc, .pointer none, .int .i32 0, .int .i32 0]⟩
def ti326 : TI := ⟨.struct #[⟨"Size_", 12, 0, false, "", "", 0⟩, ⟨"PtrBytes", 12, 1, false, "", "", 8⟩, ⟨"Hash", 268, 2, false, "", "", 16⟩, ⟨"TFlag", 319, 3, false, "", "", 20⟩, ⟨"Align_", 5, 4, false, "", "", 21⟩, ⟨"FieldAlign_", 5, 5, false, "", "", 22⟩, ⟨"Kind_", 320, 6, false, "", "", 23⟩, ⟨"Equal", 321, 7, false, "", "", 24⟩, ⟨"GCData", 322, 8, false, "", "", 32⟩, ⟨"Str", 323, 9, false, "", "", 40⟩, ⟨"PtrToThis", 324, 10, false, "", "", 44⟩], 11, 48, .agg #[.int .u64 0, .int .u64 0, .int .u32 0, .int .u8 0, .int .u8 0, .int .u8 0, .int .u8 0, .nilFunc, .pointer none, .int .i32 0, .int .i32 0]⟩
def TT :Tab:=[(2,ti2),(3,ti3),(4,ti4),(5,ti5),(6,ti6),(7,ti7),(8,ti8),(9,ti9),(10,ti10),(11,ti11),(12,ti12),(13,ti13),(14,ti14),(15,ti15),(16,ti16),(17,ti17),(18,ti18),(19,ti19),(21,ti21),(22,ti22),(23,ti23),(25,ti25),(27,ti27),(29,ti29),(30,ti30),(36,ti36),(37,ti37),(39,ti39),(40,ti40),(41,ti41),(42,ti42),(43,ti43),(44,ti44),(46,ti46),(49,ti49),(50,ti50),(51,ti51),(52,ti52),(53,ti53),(55,ti55),(58,ti58),(59,ti59),(62,ti62),(66,ti66),(67,ti67),(68,ti68),(69,ti69),(70,ti70),(71,ti71),(73,ti73),(74,ti74),(75,ti75),(86,ti86),(87,ti87),(92,ti92),(94,ti94),(95,ti95),(96,ti96),(97,ti97),(98,ti98),(102,ti102),(104,ti104),(106,ti106),(108,ti108),(110,ti110),(111,ti111),(112,ti112),(113,ti113),(123,ti123),(130,ti130),(131,ti131),(133,ti133),(134,ti134),(138,ti138),(139,ti139),(140,ti140),(141,ti141),(142,ti142),(143,ti143),(144,ti144),(145,ti145),(146,ti146),(147,ti147),(148,ti148),(149,ti149),(150,ti150),(151,ti151),(152,ti152),(153,ti153),(154,ti154),(155,ti155),(159,ti159),(160,ti160),(165,ti165),(167,ti167),(168,ti168),(173,ti173),(174,ti174),(233,ti233),(247,ti247),(261,ti261),(268,ti268),(270,ti270),(271,ti271),(274,ti274),(275,ti275),(276,ti276),(277,ti277),(289,ti289),(292,ti292),(297,ti297),(301,ti301),(314,ti314),(315,ti315),(319,ti319),(320,ti320),(322,ti322),(323,ti323),(324,ti324),(325,ti325),(326,ti326)]
theorem tg2 :zaE Tryz.prog 2 ti2:=zaG Tryz.underlying2 (by kernel_rfl)
theorem tg3 :zaE Tryz.prog 3 ti3:=zaG Tryz.underlying3 (by kernel_rfl)
theorem tg4 :zaE Tryz.prog 4 ti4:=zaG Tryz.underlying4 (by kernel_rfl)
theorem tg5 :zaE Tryz.prog 5 ti5:=zaG Tryz.underlying5 (by kernel_rfl)
theorem tg6 :zaE Tryz.prog 6 ti6:=zaG Tryz.underlying6 (by kernel_rfl)
theorem tg7 :zaE Tryz.prog 7 ti7:=zaG Tryz.underlying7 (by kernel_rfl)
theorem tg8 :zaE Tryz.prog 8 ti8:=zaG Tryz.underlying8 (by kernel_rfl)
theorem tg9 :zaE Tryz.prog 9 ti9:=zaG Tryz.underlying9 (by kernel_rfl)
theorem tg10 :zaE Tryz.prog 10 ti10:=zaG Tryz.underlying10 (by kernel_rfl)
theorem tg11 :zaE Tryz.prog 11 ti11:=zaG Tryz.underlying11 (by kernel_rfl)
theorem tg12 :zaE Tryz.prog 12 ti12:=zaG Tryz.underlying12 (by kernel_rfl)
theorem tg13 :zaE Tryz.prog 13 ti13:=zaG Tryz.underlying13 (by kernel_rfl)
theorem tg14 :zaE Tryz.prog 14 ti14:=zaG Tryz.underlying14 (by kernel_rfl)
theorem tg15 :zaE Tryz.prog 15 ti15:=zaG Tryz.underlying15 (by kernel_rfl)
theorem tg16 :zaE Tryz.prog 16 ti16:=zaG Tryz.underlying16 (by kernel_rfl)
theorem tg17 :zaE Tryz.prog 17 ti17:=zaG Tryz.underlying17 (by kernel_rfl)
theorem tg18 :zaE Tryz.prog 18 ti18:=zaG Tryz.underlying18 (by kernel_rfl)
theorem tg19 :zaE Tryz.prog 19 ti19:=zaG Tryz.underlying19 (by kernel_rfl)
theorem tg21 :zaE Tryz.prog 21 ti21:=zaG Tryz.underlying21 (by kernel_rfl)
theorem tg22 :zaE Tryz.prog 22 ti22:=zaG Tryz.underlying22 (by kernel_rfl)
theorem tg23 :zaE Tryz.prog 23 ti23:=zaG Tryz.underlying23 (by kernel_rfl)
theorem tg25 :zaE Tryz.prog 25 ti25:=zaG Tryz.underlying25 (by kernel_rfl)
theorem tg27 :zaE Tryz.prog 27 ti27:=zaG Tryz.underlying27 (by kernel_rfl)
theorem tg29 :zaE Tryz.prog 29 ti29:=zaG Tryz.underlying29 (by kernel_rfl)
theorem tg30 :zaE Tryz.prog 30 ti30:=zaG Tryz.underlying30 (by kernel_rfl)
theorem tg36 :zaE Tryz.prog 36 ti36:=zaG Tryz.underlying36 (by kernel_rfl)
theorem tg37 :zaE Tryz.prog 37 ti37:=zaG Tryz.underlying37 (by kernel_rfl)
theorem tg39 :zaE Tryz.prog 39 ti39:=zaG Tryz.underlying39 (by kernel_rfl)
theorem tg40 :zaE Tryz.prog 40 ti40:=zaG Tryz.underlying40 (by kernel_rfl)
theorem tg41 :zaE Tryz.prog 41 ti41:=zaG Tryz.underlying41 (by kernel_rfl)
theorem tg42 :zaE Tryz.prog 42 ti42:=zaG Tryz.underlying42 (by kernel_rfl)
theorem tg43 :zaE Tryz.prog 43 ti43:=zaG Tryz.underlying43 (by kernel_rfl)
theorem tg44 :zaE Tryz.prog 44 ti44:=zaG Tryz.underlying44 (by kernel_rfl)
theorem tg46 :zaE Tryz.prog 46 ti46:=zaG Tryz.underlying46 (by kernel_rfl)
theorem tg49 :zaE Tryz.prog 49 ti49:=zaG Tryz.underlying49 (by kernel_rfl)
theorem tg50 :zaE Tryz.prog 50 ti50:=zaG Tryz.underlying50 (by kernel_rfl)
theorem tg51 :zaE Tryz.prog 51 ti51:=zaG Tryz.underlying51 (by kernel_rfl)
theorem tg52 :zaE Tryz.prog 52 ti52:=zaG Tryz.underlying52 (by kernel_rfl)
theorem tg53 :zaE Tryz.prog 53 ti53:=zaG Tryz.underlying53 (by kernel_rfl)
theorem tg55 :zaE Tryz.prog 55 ti55:=zaG Tryz.underlying55 (by kernel_rfl)
theorem tg58 :zaE Tryz.prog 58 ti58:=zaG Tryz.underlying58 (by kernel_rfl)
theorem tg59 :zaE Tryz.prog 59 ti59:=zaG Tryz.underlying59 (by kernel_rfl)
theorem tg62 :zaE Tryz.prog 62 ti62:=zaG Tryz.underlying62 (by kernel_rfl)
theorem tg66 :zaE Tryz.prog 66 ti66:=zaG Tryz.underlying66 (by kernel_rfl)
theorem tg67 :zaE Tryz.prog 67 ti67:=zaG Tryz.underlying67 (by kernel_rfl)
theorem tg68 :zaE Tryz.prog 68 ti68:=zaG Tryz.underlying68 (by kernel_rfl)
theorem tg69 :zaE Tryz.prog 69 ti69:=zaG Tryz.underlying69 (by kernel_rfl)
theorem tg70 :zaE Tryz.prog 70 ti70:=zaG Tryz.underlying70 (by kernel_rfl)
theorem tg71 :zaE Tryz.prog 71 ti71:=zaG Tryz.underlying71 (by kernel_rfl)
theorem tg73 :zaE Tryz.prog 73 ti73:=zaG Tryz.underlying73 (by kernel_rfl)
theorem tg74 :zaE Tryz.prog 74 ti74:=zaG Tryz.underlying74 (by kernel_rfl)
theorem tg75 :zaE Tryz.prog 75 ti75:=zaG Tryz.underlying75 (by kernel_rfl)
theorem tg86 :zaE Tryz.prog 86 ti86:=zaG Tryz.underlying86 (by kernel_rfl)
theorem tg87 :zaE Tryz.prog 87 ti87:=zaG Tryz.underlying87 (by kernel_rfl)
theorem tg92 :zaE Tryz.prog 92 ti92:=zaG Tryz.underlying92 (by kernel_rfl)
theorem tg94 :zaE Tryz.prog 94 ti94:=zaG Tryz.underlying94 (by kernel_rfl)
theorem tg95 :zaE Tryz.prog 95 ti95:=zaG Tryz.underlying95 (by kernel_rfl)
theorem tg96 :zaE Tryz.prog 96 ti96:=zaG Tryz.underlying96 (by kernel_rfl)
theorem tg97 :zaE Tryz.prog 97 ti97:=zaG Tryz.underlying97 (by kernel_rfl)
theorem tg98 :zaE Tryz.prog 98 ti98:=zaG Tryz.underlying98 (by kernel_rfl)
theorem zmh :zaE Tryz.prog 102 ti102:=zaG Tryz.underlying102 (by kernel_rfl)
theorem zmi :zaE Tryz.prog 104 ti104:=zaG Tryz.underlying104 (by kernel_rfl)
theorem zmj :zaE Tryz.prog 106 ti106:=zaG Tryz.underlying106 (by kernel_rfl)
theorem zmk :zaE Tryz.prog 108 ti108:=zaG Tryz.underlying108 (by kernel_rfl)
theorem zml :zaE Tryz.prog 110 ti110:=zaG Tryz.underlying110 (by kernel_rfl)
theorem zmm :zaE Tryz.prog 111 ti111:=zaG Tryz.underlying111 (by kernel_rfl)
theorem zmn :zaE Tryz.prog 112 ti112:=zaG Tryz.underlying112 (by kernel_rfl)
theorem zmo :zaE Tryz.prog 113 ti113:=zaG Tryz.underlying113 (by kernel_rfl)
theorem zmp :zaE Tryz.prog 123 ti123:=zaG Tryz.underlying123 (by kernel_rfl)
theorem zmq :zaE Tryz.prog 130 ti130:=zaG Tryz.underlying130 (by kernel_rfl)
theorem zmr :zaE Tryz.prog 131 ti131:=zaG Tryz.underlying131 (by kernel_rfl)
theorem zms :zaE Tryz.prog 133 ti133:=zaG Tryz.underlying133 (by kernel_rfl)
theorem zmt :zaE Tryz.prog 134 ti134:=zaG Tryz.underlying134 (by kernel_rfl)
theorem zmu :zaE Tryz.prog 138 ti138:=zaG Tryz.underlying138 (by kernel_rfl)
theorem zmv :zaE Tryz.prog 139 ti139:=zaG Tryz.underlying139 (by kernel_rfl)
theorem zmw :zaE Tryz.prog 140 ti140:=zaG Tryz.underlying140 (by kernel_rfl)
theorem zmx :zaE Tryz.prog 141 ti141:=zaG Tryz.underlying141 (by kernel_rfl)
theorem zmy :zaE Tryz.prog 142 ti142:=zaG Tryz.underlying142 (by kernel_rfl)
theorem zmz :zaE Tryz.prog 143 ti143:=zaG Tryz.underlying143 (by kernel_rfl)
theorem zmA :zaE Tryz.prog 144 ti144:=zaG Tryz.underlying144 (by kernel_rfl)
theorem zmB :zaE Tryz.prog 145 ti145:=zaG Tryz.underlying145 (by kernel_rfl)
theorem zmC :zaE Tryz.prog 146 ti146:=zaG Tryz.underlying146 (by kernel_rfl)
theorem zmD :zaE Tryz.prog 147 ti147:=zaG Tryz.underlying147 (by kernel_rfl)
theorem zmE :zaE Tryz.prog 148 ti148:=zaG Tryz.underlying148 (by kernel_rfl)
theorem zmF :zaE Tryz.prog 149 ti149:=zaG Tryz.underlying149 (by kernel_rfl)
theorem zmG :zaE Tryz.prog 150 ti150:=zaG Tryz.underlying150 (by kernel_rfl)
theorem zmH :zaE Tryz.prog 151 ti151:=zaG Tryz.underlying151 (by kernel_rfl)
theorem zmI :zaE Tryz.prog 152 ti152:=zaG Tryz.underlying152 (by kernel_rfl)
theorem zmJ :zaE Tryz.prog 153 ti153:=zaG Tryz.underlying153 (by kernel_rfl)
theorem zmK :zaE Tryz.prog 154 ti154:=zaG Tryz.underlying154 (by kernel_rfl)
theorem zmL :zaE Tryz.prog 155 ti155:=zaG Tryz.underlying155 (by kernel_rfl)
theorem zmM :zaE Tryz.prog 159 ti159:=zaG Tryz.underlying159 (by kernel_rfl)
theorem zmN :zaE Tryz.prog 160 ti160:=zaG Tryz.underlying160 (by kernel_rfl)
theorem zmO :zaE Tryz.prog 165 ti165:=zaG Tryz.underlying165 (by kernel_rfl)
theorem zmP :zaE Tryz.prog 167 ti167:=zaG Tryz.underlying167 (by kernel_rfl)
theorem zmQ :zaE Tryz.prog 168 ti168:=zaG Tryz.underlying168 (by kernel_rfl)
theorem zmR :zaE Tryz.prog 173 ti173:=zaG Tryz.underlying173 (by kernel_rfl)
theorem zmS :zaE Tryz.prog 174 ti174:=zaG Tryz.underlying174 (by kernel_rfl)
theorem zmT :zaE Tryz.prog 233 ti233:=zaG Tryz.underlying233 (by kernel_rfl)
theorem zmU :zaE Tryz.prog 247 ti247:=zaG Tryz.underlying247 (by kernel_rfl)
theorem zmV :zaE Tryz.prog 261 ti261:=zaG Tryz.underlying261 (by kernel_rfl)
theorem zmW :zaE Tryz.prog 268 ti268:=zaG Tryz.underlying268 (by kernel_rfl)
theorem zmX :zaE Tryz.prog 270 ti270:=zaG Tryz.underlying270 (by kernel_rfl)
theorem zmY :zaE Tryz.prog 271 ti271:=zaG Tryz.underlying271 (by kernel_rfl)
theorem zmZ :zaE Tryz.prog 274 ti274:=zaG Tryz.underlying274 (by kernel_rfl)
theorem zm0 :zaE Tryz.prog 275 ti275:=zaG Tryz.underlying275 (by kernel_rfl)
theorem zm1 :zaE Tryz.prog 276 ti276:=zaG Tryz.underlying276 (by kernel_rfl)
theorem zm2 :zaE Tryz.prog 277 ti277:=zaG Tryz.underlying277 (by kernel_rfl)
theorem zm3 :zaE Tryz.prog 289 ti289:=zaG Tryz.underlying289 (by kernel_rfl)
theorem zm4 :zaE Tryz.prog 292 ti292:=zaG Tryz.underlying292 (by kernel_rfl)
theorem zm5 :zaE Tryz.prog 297 ti297:=zaG Tryz.underlying297 (by kernel_rfl)
theorem zm6 :zaE Tryz.prog 301 ti301:=zaG Tryz.underlying301 (by kernel_rfl)
theorem zm7 :zaE Tryz.prog 314 ti314:=zaG Tryz.underlying314 (by kernel_rfl)
theorem zm8 :zaE Tryz.prog 315 ti315:=zaG Tryz.underlying315 (by kernel_rfl)
theorem zm9 :zaE Tryz.prog 319 ti319:=zaG Tryz.underlying319 (by kernel_rfl)
theorem zna :zaE Tryz.prog 320 ti320:=zaG Tryz.underlying320 (by kernel_rfl)
theorem znb :zaE Tryz.prog 322 ti322:=zaG Tryz.underlying322 (by kernel_rfl)
theorem znc :zaE Tryz.prog 323 ti323:=zaG Tryz.underlying323 (by kernel_rfl)
theorem znd :zaE Tryz.prog 324 ti324:=zaG Tryz.underlying324 (by kernel_rfl)
theorem zne :zaE Tryz.prog 325 ti325:=zaG Tryz.underlying325 (by kernel_rfl)
theorem znf :zaE Tryz.prog 326 ti326:=zaG Tryz.underlying326 (by kernel_rfl)
theorem hT :zba Tryz.prog TT:=
 zat tg2 <| zat tg3 <| zat tg4 <| zat tg5 <| zat tg6 <| zat tg7 <| zat tg8 <| zat tg9 <| zat tg10 <| zat tg11 <| zat tg12 <| zat tg13 <| zat tg14 <| zat tg15 <| zat tg16 <| zat tg17 <| zat tg18 <| zat tg19 <| zat tg21 <| zat tg22 <| zat tg23 <| zat tg25 <| zat tg27 <| zat tg29 <| zat tg30 <| zat tg36 <| zat tg37 <| zat tg39 <| zat tg40 <| zat tg41 <| zat tg42 <| zat tg43 <| zat tg44 <| zat tg46 <| zat tg49 <| zat tg50 <| zat tg51 <| zat tg52 <| zat tg53 <| zat tg55 <| zat tg58 <| zat tg59 <| zat tg62 <| zat tg66 <| zat tg67 <| zat tg68 <| zat tg69 <| zat tg70 <| zat tg71 <| zat tg73 <| zat tg74 <| zat tg75 <| zat tg86 <| zat tg87 <| zat tg92 <| zat tg94 <| zat tg95 <| zat tg96 <| zat tg97 <| zat tg98 <| zat zmh <| zat zmi <| zat zmj <| zat zmk <| zat zml <| zat zmm <| zat zmn <| zat zmo <| zat zmp <| zat zmq <| zat zmr <| zat zms <| zat zmt <| zat zmu <| zat zmv <| zat zmw <| zat zmx <| zat zmy <| zat zmz <| zat zmA <| zat zmB <| zat zmC <| zat zmD <| zat zmE <| zat zmF <| zat zmG <| zat zmH <| zat zmI <| zat zmJ <| zat zmK <| zat zmL <| zat zmM <| zat zmN <| zat zmO <| zat zmP <| zat zmQ <| zat zmR <| zat zmS <| zat zmT <| zat zmU <| zat zmV <| zat zmW <| zat zmX <| zat zmY <| zat zmZ <| zat zm0 <| zat zm1 <| zat zm2 <| zat zm3 <| zat zm4 <| zat zm5 <| zat zm6 <| zat zm7 <| zat zm8 <| zat zm9 <| zat zna <| zat znb <| zat znc <| zat znd <| zat zne <| zat znf <| zkW
theorem hmix :Tryz.prog.follows .mixedOrders=true:=by kernel_rfl
end Go.Proofs.YteocfhdocpeokaaGreat
set_option linter.unusedSimpArgs false
set_option linter.unusedVariables false
namespace Go.Proofs.YteocfhdocpeokaaGreat
open Go Go.Sl
attribute [local irreducible] AW ES Ld RetQ
set_option maxRecDepth 100000
def cmpI (x y:Int):Int:=if x<y then -1 else if y<x then 1 else 0
end Go.Proofs.YteocfhdocpeokaaGreat
set_option linter.unusedSimpArgs false
set_option linter.unusedVariables false
namespace Go.Proofs.YteocfhdocpeokaaGreat
open Go Go.Sl
attribute [local irreducible] AW ES EP Ld RetQ
set_option maxRecDepth 100000
def zk9 (t:zaB)(s who other:Int):OutR:=outM who 28 [t.id,s,t.bond,t.price,t.qty,other]
theorem zjY (W:World)(t:zaB)(s who other:Int):zaF Tryz.prog W 105 [.agg t.enc.toArray,.int .i64 s,.int .i64 who,.int .i64 other] [] (.agg (zk9 t s who other).enc.toArray):=by
 refine zaF.ofD (fun h' hs=> ?_)
 refine zaA Tryz.func105 rfl rfl Tryz.results105 Tryz.ntmps105 rfl rfl ?_
 repeat' (first
  |apply zaz|apply zaa|apply zay|apply zal|apply zam|apply zae|apply zaw
  |(apply zai hT;(iterate 4 exact rfl))|(apply zaj;(iterate 3 exact rfl))|(apply zad;(iterate 2 exact rfl))
  |(apply zax hT;(iterate 4 exact rfl);(iterate 2 (first|omega|(dsimp only;omega))))
  |(apply zar [] [] hmix;decide+kernel)
  |(apply zau;(iterate 5 exact rfl);intro g4)
  |(apply zac hT;(iterate 5 exact rfl);first|((fail_if_success (have q:=g8));intro g8)|((fail_if_success (have q:=g9));intro g9)|intro _)
  |(apply zc8 hT (cs:=[.int .i64 t.id,.int .i64 s,.int .i64 t.bond,.int .i64 t.price,.int .i64 t.qty,.int .i64 other]);(iterate 4 exact rfl))
  |(apply zaQ hT (cs:=(zk9 t s who other).msg.enc);(iterate 4 exact rfl))
  |(apply zaQ hT (cs:=(zk9 t s who other).enc);(iterate 4 exact rfl))
  |(apply zaP hT;(iterate 6 exact rfl);exact sX;(iterate 3 exact rfl);exact Nat.le_of_ble_eq_true rfl)
  |(apply zab;(iterate 5 exact rfl);first|(apply zas hT;exact rfl;exact rfl;(repeat(first|exact List.mem_cons_self|apply List.mem_cons_of_mem|apply List.mem_append_right));exact rfl;exact rfl)|(apply zaq hT;exact rfl;exact rfl;(repeat(first|exact List.mem_cons_self|apply List.mem_cons_of_mem|apply List.mem_append_right));exact rfl))
  |(apply zau;(iterate 5 exact rfl);intro _)|(apply zac hT;(iterate 5 exact rfl);intro _)
  |(apply zaf;(iterate 2 exact rfl))|(apply zag;(iterate 2 exact rfl))
  |(apply zak;exact rfl;all_goals intro hb;all_goals(fail_if_success (change true=true at hb));all_goals(fail_if_success (change false=false at hb));all_goals(try dsimp only at hb);all_goals(try simp only[hb]);all_goals(first|replace hb:=of_decide_eq_true hb|replace hb:=of_decide_eq_false hb|replace hb:=zao hb|replace hb:=zap hb|replace hb:=eq_of_beq hb|replace hb:=ne_of_beq_false hb|skip);all_goals(try(exfalso;omega)))
  |(apply zan;exact rfl;all_goals intro hb;all_goals(try dsimp only at hb);all_goals(try simp only[hb]);all_goals(first|replace hb:=of_decide_eq_true hb|replace hb:=of_decide_eq_false hb|replace hb:=zao hb|replace hb:=zap hb|replace hb:=eq_of_beq hb|replace hb:=ne_of_beq_false hb|skip);all_goals(try(exfalso;omega))))
 all_goals first
  |(apply zk1;exact rfl;(apply zaq hT;exact rfl;exact rfl;(repeat(first|exact List.mem_cons_self|apply List.mem_cons_of_mem|apply List.mem_append_right));exact rfl);exact⟨rfl,dX⟩)
  |skip
theorem zla (W:World)(h:List zah)(t:zaB):zaL Tryz.prog W 73 [.agg t.enc.toArray] h (fun v h'=>∃g,v=.slice (some ⟨g,0,none⟩) 2 2∧h'=.own (some ⟨g,0,none⟩) 2 2 44 8 ((zbz t).flatMap OutR.enc)::h):=by
 refine zaL.dropTo ?_
 refine zaA Tryz.func73 rfl rfl Tryz.results73 Tryz.ntmps73 rfl rfl ?_
 repeat' (first
  |apply zaz|apply zaa|apply zay|apply zal|apply zam|apply zae|apply zaw
  |(apply zai hT;(iterate 4 exact rfl))|(apply zaj;(iterate 3 exact rfl))|(apply zad;(iterate 2 exact rfl))
  |(apply zax hT;(iterate 4 exact rfl);(iterate 2 (first|omega|(dsimp only;omega))))
  |(apply zar [105] [] hmix;decide+kernel)
  |(apply zau;(iterate 5 exact rfl);intro g1)
  |(apply zaC (hs:=((zjY W t _ _ _).mono (by simp)));(iterate 7 exact rfl))
  |(apply zaI hT;(iterate 12 exact rfl);intro g)
  |(apply zab;(iterate 5 exact rfl);first|(apply zas hT;exact rfl;exact rfl;(repeat(first|exact List.mem_cons_self|apply List.mem_cons_of_mem|apply List.mem_append_right));exact rfl;exact rfl)|(apply zaq hT;exact rfl;exact rfl;(repeat(first|exact List.mem_cons_self|apply List.mem_cons_of_mem|apply List.mem_append_right));exact rfl))
  |(apply zau;(iterate 5 exact rfl);intro _)|(apply zac hT;(iterate 5 exact rfl);intro _)
  |(apply zaf;(iterate 2 exact rfl))|(apply zag;(iterate 2 exact rfl))
  |(apply zak;exact rfl;all_goals intro hb;all_goals(fail_if_success (change true=true at hb));all_goals(fail_if_success (change false=false at hb));all_goals(try dsimp only at hb);all_goals(try simp only[hb]);all_goals(first|replace hb:=of_decide_eq_true hb|replace hb:=of_decide_eq_false hb|replace hb:=zao hb|replace hb:=zap hb|replace hb:=eq_of_beq hb|replace hb:=ne_of_beq_false hb|skip);all_goals(try(exfalso;omega)))
  |(apply zan;exact rfl;all_goals intro hb;all_goals(try dsimp only at hb);all_goals(try simp only[hb]);all_goals(first|replace hb:=of_decide_eq_true hb|replace hb:=of_decide_eq_false hb|replace hb:=zao hb|replace hb:=zap hb|replace hb:=eq_of_beq hb|replace hb:=ne_of_beq_false hb|skip);all_goals(try(exfalso;omega))))
 all_goals first
  |(apply ret1;exact rfl;exact⟨_,by(show zaW _ (.own (some ⟨g,0,none⟩) 2 2 44 8 ((zbz t).flatMap OutR.enc)::h));exact dX,g,rfl,rfl⟩)
  |skip
theorem zjZ {kind:Int}{ns:List Int}{k:Nat}{v:Int}(hl:ns.length≤6)(hv:ns[k]? =some v):lay (zgr kind (ns.take k)).enc (1+k*1) (Value.cells (.int .i64 v)).toList=(zgr kind (ns.take (k+1))).enc:=by
 rcases ns with _|⟨a,_|⟨b,_|⟨c,_|⟨d,_|⟨e,_|⟨f,_|⟨g,t⟩⟩⟩⟩⟩⟩⟩<;>rcases k with _|_|_|_|_|_|k<;>first
  |(exfalso;simp at hv;done)
  |(exfalso;simp only[List.length_cons]at hl;omega)
  |(simp at hv;subst hv;rfl)
theorem zlb (W:World)(h:List zah)(A:Option Addr)(c:Nat)(kind:Int)(ns:List Int)(hr:zaD W h A ns.length 1 (ns.map (Value.int .i64)))(hl:ns.length≤6):
 zaF Tryz.prog W 40 [.int .i64 kind,.slice A ns.length c] h (.agg (zgr kind ns).enc.toArray):=by
 refine zaF.ofD (fun h' hs=> ?_)
 have hrd:=hr.mono hs
 refine zaA Tryz.func40 rfl rfl Tryz.results40 Tryz.ntmps40 rfl rfl ?_
 refine zaO hrd rfl (fun hA=> ?_)
 repeat' (first
  |apply zaz|apply zaa|apply zay|apply zal|apply zam|apply zae|apply zaw
  |(apply zai hT;(iterate 4 exact rfl))|(apply zaj;(iterate 3 exact rfl))|(apply zad;(iterate 2 exact rfl))
  |(apply zax hT;(iterate 4 exact rfl);(iterate 2 (first|omega|(dsimp only;omega))))
  |(apply zar [] [] hmix;decide+kernel)
  |(apply zac hT;(iterate 5 exact rfl);first|((fail_if_success (have q:=g4));intro g4)|((fail_if_success (have q:=g5));intro g5)|intro _)
  |(apply zaQ hT (cs:=(zgr kind []).enc);(iterate 4 exact rfl))
  |(apply zaP hT;(iterate 6 exact rfl);exact sX;(iterate 3 exact rfl);exact Nat.le_of_ble_eq_true rfl)
  |(apply zab;(iterate 5 exact rfl);first|(apply zas hT;exact rfl;exact rfl;(repeat(first|exact List.mem_cons_self|apply List.mem_cons_of_mem|apply List.mem_append_right));exact rfl;exact rfl)|(apply zaq hT;exact rfl;exact rfl;(repeat(first|exact List.mem_cons_self|apply List.mem_cons_of_mem|apply List.mem_append_right));exact rfl))
  |(apply zau;(iterate 5 exact rfl);intro _)|(apply zac hT;(iterate 5 exact rfl);intro _)
  |(apply zaf;(iterate 2 exact rfl))|(apply zag;(iterate 2 exact rfl))
  |(apply zak;exact rfl;all_goals intro hb;all_goals(fail_if_success (change true=true at hb));all_goals(fail_if_success (change false=false at hb));all_goals(try dsimp only at hb);all_goals(try simp only[hb]);all_goals(first|replace hb:=of_decide_eq_true hb|replace hb:=of_decide_eq_false hb|replace hb:=zao hb|replace hb:=zap hb|replace hb:=eq_of_beq hb|replace hb:=ne_of_beq_false hb|skip);all_goals(try(exfalso;omega)))
  |(apply zan;exact rfl;all_goals intro hb;all_goals(try dsimp only at hb);all_goals(try simp only[hb]);all_goals(first|replace hb:=of_decide_eq_true hb|replace hb:=of_decide_eq_false hb|replace hb:=zao hb|replace hb:=zap hb|replace hb:=eq_of_beq hb|replace hb:=ne_of_beq_false hb|skip);all_goals(try(exfalso;omega))))
 refine zaX (α:=Nat) (E:=fun k=>[(0,.int .i64 kind),(1,.slice A ns.length c),(4,.pointer (some ⟨g4,0,none⟩)),(5,.pointer (some ⟨g5,0,none⟩)),(6,.int .i64 k)]) (H:=fun k=>.blk g5 42 (zgr kind (ns.take k)).enc::.blk g4 42 (zgr 0 []).enc::h') (μ:=fun k=>ns.length - k)
  (S:=fun k=>k≤ns.length) 0 (Nat.zero_le _) ⟨rfl,rfl,rfl,rfl,rfl,trivial⟩ dX ?_
 intro k hk
 by_cases hlt:k<ns.length
 ·obtain⟨v,hv⟩:∃v,ns[k]? =some v:=⟨ns[k]'(by omega),gge (by omega)⟩
  have hv2:ns[(k:Int).toNat]? =some v:=by simpa using hv
  have hA':=hA (by omega)
  have hd1:decide ((k:Int)<(ns.length:Int))=true:=by simp;omega
  have hd2:decide ((k:Int)<6)=true:=by simp;omega
  have hix:=zgt (kd:=.i64) hv2
  have hst:=zjZ (kind:=kind) hl hv
  repeat' (first
   |apply zaz|apply zaa|apply zay|apply zal|apply zam|apply zae|apply zaw
   |(apply zai hT;(iterate 4 exact rfl))|(apply zaj;(iterate 3 exact rfl))|(apply zad;(iterate 2 exact rfl))
   |(apply zax hT;(iterate 4 exact rfl);(iterate 2 (first|omega|(dsimp only;omega))))
   |(apply zar [] [] hmix;decide+kernel)
   |(apply zfE hT;(iterate 9 exact rfl);(iterate 2 omega))
   |(apply zaU hT;(iterate 8 exact rfl);(iterate 2 omega);exact hA')
   |(apply zab;(iterate 5 exact rfl);exact zbd hT rfl rfl (hrd.mono (by(intro c hc;(repeat(first|exact hc|apply List.mem_cons_of_mem|apply List.mem_append_right))))) rfl hix)
   |(apply zaP hT;(iterate 6 exact rfl);exact sX;(iterate 3 exact rfl);(show 0+1+(k:Int).toNat*1+1≤7;omega))
   |(apply zaP hT;(iterate 6 exact rfl);exact sX;(iterate 3 exact rfl);exact Nat.le_of_ble_eq_true rfl)
   |(apply zab;(iterate 5 exact rfl);first|(apply zas hT;exact rfl;exact rfl;(repeat(first|exact List.mem_cons_self|apply List.mem_cons_of_mem|apply List.mem_append_right));exact rfl;exact rfl)|(apply zaq hT;exact rfl;exact rfl;(repeat(first|exact List.mem_cons_self|apply List.mem_cons_of_mem|apply List.mem_append_right));exact rfl))
   |(apply zau;(iterate 5 exact rfl);intro _)|(apply zac hT;(iterate 5 exact rfl);intro _)
   |(apply zaf;(iterate 2 exact rfl))|(apply zag;(iterate 2 exact rfl))
   |(apply zak;exact rfl;all_goals intro hb;all_goals(fail_if_success (change true=true at hb));all_goals(fail_if_success (change false=false at hb));all_goals(try dsimp only at hb);all_goals(try simp only[hb]);all_goals(first|replace hb:=of_decide_eq_true hb|replace hb:=of_decide_eq_false hb|replace hb:=zao hb|replace hb:=zap hb|replace hb:=eq_of_beq hb|replace hb:=ne_of_beq_false hb|skip);all_goals(try(exfalso;omega)))
   |(apply zan;exact rfl;all_goals intro hb;all_goals(try dsimp only at hb);all_goals(try simp only[hb]);all_goals(first|replace hb:=of_decide_eq_true hb|replace hb:=of_decide_eq_false hb|replace hb:=zao hb|replace hb:=zap hb|replace hb:=eq_of_beq hb|replace hb:=ne_of_beq_false hb|skip);all_goals(try(exfalso;omega))))
  all_goals first
   |(exfalso;omega)
   |exact zaM (k+1) (by(try dsimp only);omega) (by(try dsimp only);omega) ⟨rfl,rfl,rfl,rfl,rfl,trivial⟩ (by dsimp only;rw[←hst];exact dX)
   |skip
 ·obtain rfl:k=ns.length:=by omega
  have hd1:decide ((ns.length:Int)<(ns.length:Int))=false:=by simp
  rw[List.take_length]
  repeat' (first
   |apply zaz|apply zaa|apply zay|apply zal|apply zam|apply zae|apply zaw
   |(apply zai hT;(iterate 4 exact rfl))|(apply zaj;(iterate 3 exact rfl))|(apply zad;(iterate 2 exact rfl))
   |(apply zax hT;(iterate 4 exact rfl);(iterate 2 (first|omega|(dsimp only;omega))))
   |(apply zar [] [] hmix;decide+kernel)
   |(apply zaP hT;(iterate 6 exact rfl);exact sX;(iterate 3 exact rfl);exact Nat.le_of_ble_eq_true rfl)
   |(apply zab;(iterate 5 exact rfl);first|(apply zas hT;exact rfl;exact rfl;(repeat(first|exact List.mem_cons_self|apply List.mem_cons_of_mem|apply List.mem_append_right));exact rfl;exact rfl)|(apply zaq hT;exact rfl;exact rfl;(repeat(first|exact List.mem_cons_self|apply List.mem_cons_of_mem|apply List.mem_append_right));exact rfl))
   |(apply zau;(iterate 5 exact rfl);intro _)|(apply zac hT;(iterate 5 exact rfl);intro _)
   |(apply zaf;(iterate 2 exact rfl))|(apply zag;(iterate 2 exact rfl))
   |(apply zak;exact rfl;all_goals intro hb;all_goals(fail_if_success (change true=true at hb));all_goals(fail_if_success (change false=false at hb));all_goals(try dsimp only at hb);all_goals(try simp only[hb]);all_goals(first|replace hb:=of_decide_eq_true hb|replace hb:=of_decide_eq_false hb|replace hb:=zao hb|replace hb:=zap hb|replace hb:=eq_of_beq hb|replace hb:=ne_of_beq_false hb|skip);all_goals(try(exfalso;omega)))
   |(apply zan;exact rfl;all_goals intro hb;all_goals(try dsimp only at hb);all_goals(try simp only[hb]);all_goals(first|replace hb:=of_decide_eq_true hb|replace hb:=of_decide_eq_false hb|replace hb:=zao hb|replace hb:=zap hb|replace hb:=eq_of_beq hb|replace hb:=ne_of_beq_false hb|skip);all_goals(try(exfalso;omega))))
  all_goals first
   |(exfalso;omega)
   |(apply zk1;exact rfl;(apply zaq hT;exact rfl;exact rfl;(repeat(first|exact List.mem_cons_self|apply List.mem_cons_of_mem|apply List.mem_append_right));exact rfl);exact⟨rfl,dX⟩)
   |skip
theorem zfd (W:World)(h:List zah)(t:zaB):zaL Tryz.prog W 13 [.agg t.enc.toArray] h (fun v h'=>∃g,v=.slice (some ⟨g,0,none⟩) 2 2∧h'=.own (some ⟨g,0,none⟩) 2 2 44 8 ((zbz t).flatMap OutR.enc)::h):=by
 refine zaL.dropTo ?_
 have hO:=fun(s who:Int) k g (m:zah.own (some ⟨g,0,none⟩) 6 6 2 1 [.int .i64 t.id,.int .i64 s,.int .i64 t.bond,.int .i64 t.price,.int .i64 t.qty,.int .i64 who]∈k)=>zlb W k (some ⟨g,0,none⟩) 6 28 [t.id,s,t.bond,t.price,t.qty,who] (zaD.ints (c:=6) (t:= 2) m rfl) (by simp)
 have h1:=hO 1 t.seller
 have h2:=hO 2 t.buyer
 refine zaA Tryz.func13 rfl rfl Tryz.results13 Tryz.ntmps13 rfl rfl ?_
 repeat' (first
  |apply zaz|apply zaa|apply zay|apply zal|apply zam|apply zae|apply zaw
  |(apply zai hT;(iterate 4 exact rfl))|(apply zaj;(iterate 3 exact rfl))|(apply zad;(iterate 2 exact rfl))
  |(apply zax hT;(iterate 4 exact rfl);(iterate 2 (first|omega|(dsimp only;omega))))
  |(apply zar [] [] hmix;decide+kernel)
  |(apply zbj [40] [] (.step 0 <| .step 1 <| .step 2 <| .step 3 <| .step 4 <| .step 5 <| .step 6 <| .step 7 <| .step 8 <| .step 9 <| .step 10 <| .step 14 <| .step 15 <| .step 16 <| .step 17 <| .step 18 <| .step 19 <| .step 20 <| .step 21 <| .step 22 <| .step 23 <| .step 24 <| .alt (.step 11 <| .step 12 <| .step 13 <| .step 25 <| .step 26 <| .step 27 <| .step 28 <| .step 29 <| .nil) ((.step 25 <| .step 11 <| .step 12 <| .step 13 <| .step 26 <| .step 27 <| .step 28 <| .step 29 <| .nil))) hmix;decide+kernel)|apply zbX|apply zbY|(apply zbx;exact rfl)
  |(apply zau;(iterate 5 exact rfl);intro g1)
  |(apply zaI hT;(iterate 12 exact rfl);first|((fail_if_success (have q:=g20));intro g20)|((fail_if_success (have q:=g34));intro g34)|intro g37)
  |(apply zaC (hs:=(h1 _ _ (by(repeat(first|exact List.mem_cons_self|apply List.mem_cons_of_mem|apply List.mem_append_right)))));(iterate 7 exact rfl))
  |(apply zaC (hs:=(h2 _ _ (by(repeat(first|exact List.mem_cons_self|apply List.mem_cons_of_mem|apply List.mem_append_right)))));(iterate 7 exact rfl))
  |(apply zaQ hT (cs:=(outM t.buyer 28 [t.id,1,t.bond,t.price,t.qty,t.seller]).enc);(iterate 4 exact rfl))
  |(apply zaQ hT (cs:=(outM t.seller 28 [t.id,2,t.bond,t.price,t.qty,t.buyer]).enc);(iterate 4 exact rfl))
  |(apply zab;(iterate 5 exact rfl);first|(apply zas hT;exact rfl;exact rfl;(repeat(first|exact List.mem_cons_self|apply List.mem_cons_of_mem|apply List.mem_append_right));exact rfl;exact rfl)|(apply zaq hT;exact rfl;exact rfl;(repeat(first|exact List.mem_cons_self|apply List.mem_cons_of_mem|apply List.mem_append_right));exact rfl))
  |(apply zau;(iterate 5 exact rfl);intro _)|(apply zac hT;(iterate 5 exact rfl);intro _)
  |(apply zaf;(iterate 2 exact rfl))|(apply zag;(iterate 2 exact rfl))
  |(apply zak;exact rfl;all_goals intro hb;all_goals(fail_if_success (change true=true at hb));all_goals(fail_if_success (change false=false at hb));all_goals(try dsimp only at hb);all_goals(try simp only[hb]);all_goals(first|replace hb:=of_decide_eq_true hb|replace hb:=of_decide_eq_false hb|replace hb:=zao hb|replace hb:=zap hb|replace hb:=eq_of_beq hb|replace hb:=ne_of_beq_false hb|skip);all_goals(try(exfalso;omega)))
  |(apply zan;exact rfl;all_goals intro hb;all_goals(try dsimp only at hb);all_goals(try simp only[hb]);all_goals(first|replace hb:=of_decide_eq_true hb|replace hb:=of_decide_eq_false hb|replace hb:=zao hb|replace hb:=zap hb|replace hb:=eq_of_beq hb|replace hb:=ne_of_beq_false hb|skip);all_goals(try(exfalso;omega))))
 all_goals first
  |(apply ret1;exact rfl;exact⟨_,by(show zaW _ (.own (some ⟨g37,0,none⟩) 2 2 44 8 ((zbz t).flatMap OutR.enc)::h));exact dX,g37,rfl,rfl⟩)
  |skip
end Go.Proofs.YteocfhdocpeokaaGreat
set_option linter.unusedSimpArgs false
set_option linter.unusedVariables false
namespace Go.Sl
open Go Go.RowKit
def ziw (f:TypeId→Value→Value→Option Bool)(T:Tab)(xs ys:List Value):List Field→Option Bool
 |[]=>some true
 | g :: fs => if g.name = "_" then none else
   match zgm T g.type xs g.offset,zgm T g.type ys g.offset with
   |some u,some v=>match f g.type u v,ziw f T xs ys fs with
    |some a,some b=>some (a&&b)
    |_,_=>none
   |_,_=>none
def zix (f:Value→Value→Option Bool)(T:Tab)(e:TypeId)(c:Nat)(xs ys:List Value):List Nat→Option Bool
 |[]=>some true
 |i::is=>match zgm T e xs (i*c),zgm T e ys (i*c)with
  |some u,some v=>match f u v,zix f T e c xs ys is with
   |some a,some b=>some (a&&b)
   |_,_=>none
  |_,_=>none
def eqT (T:Tab)(hd:List TypeId):Nat→TypeId→Value→Value→Option Bool
 |0,_,_,_=>none
 |n+1,t,x,y=>match T.lookup t with
  |some ⟨.int _,_,_,_⟩=>(match x,y with
   | .int k a,.int k' b=>if k=k' then some (a==b)else none
   |_,_=>none)
  |some ⟨.bool,_,_,_⟩=>(match x,y with
   | .bool a,.bool b=>some (a==b)
   |_,_=>none)
  |some ⟨.struct fs,_,_,_⟩=>(match x,y with
   | .agg xs,.agg ys=>if hd.contains t then ziw (eqT T hd n) T xs.toList ys.toList fs.toList else none
   |_,_=>none)
  |some ⟨.array len e,_,_,_⟩=>(match x,y with
   | .agg xs,.agg ys=>(match T.lookup e with
     |some te=>zix (eqT T hd n e) T e te.size xs.toList ys.toList (List.range len)
     |none=>none)
   |_,_=>none)
  |_=>none
section
variable {P : Program} {W : World} {T : Tab} {N : Nat} {env : Env} {h : List zah} {kf : KF} {ops : Array Oper} {K : Env → List zah → Prop} {rest : List Oper}
theorem zfF (hT:zba P T){f:TypeId→Value→Value→Option Bool}{m:Nat}(hf:∀t x y b,f t x y=some b→∀w,(Op.equalIn m t x y).run P w=.ok b w){xs ys:Array Value}:
 ∀{fs:List Field} {b:Bool},ziw f T xs.toList ys.toList fs=some b→∀w:World,(Op.eqFields m xs ys fs).run P w=.ok b w
 |[],b,he,w=>by simp[ziw]at he;simp[Op.eqFields,he]
 |g::fs,b,he,w=>by
  unfold ziw at he
  split at he
  ·cases he
  ·rename_i hn
   split at he
   ·rename_i u v hu hv
    split at he
    ·rename_i a1 b1 h1 h2
     injection he with he
     subst he
     have h3:=hf _ _ _ _ h1 w
     have ih:=zfF hT hf h2 w
     have p1:=zc4 hT hu w
     have p2:=zc4 hT hv w
     unfold Op.eqFields
     rw[if_pos hn]
     simp only[Sem.run_bind,p1,p2,Result.andThen_ok,h3]
     cases a1
     ·simp
     ·simp[ih]
    ·cases he
   ·cases he
theorem zfG (hT:zba P T){f:Value→Value→Option Bool}{m c:Nat}{e:TypeId}(hf:∀x y b,f x y=some b→∀w,(Op.equalIn m e x y).run P w=.ok b w){xs ys:Array Value}:
 ∀{is:List Nat} {b:Bool},zix f T e c xs.toList ys.toList is=some b→∀w:World,(Op.eqItems m e c xs ys is).run P w=.ok b w
 |[],b,he,w=>by simp[zix]at he;simp[Op.eqItems,he]
 |i::is,b,he,w=>by
  unfold zix at he
  split at he
  ·rename_i u v hu hv
   split at he
   ·rename_i a1 b1 h1 h2
    injection he with he
    subst he
    have h3:=hf _ _ _ h1 w
    have ih:=zfG hT hf h2 w
    have p1:=zc4 hT hu w
    have p2:=zc4 hT hv w
    unfold Op.eqItems
    simp only[Sem.run_bind,p1,p2,Result.andThen_ok,h3]
    cases a1
    ·simp
    ·simp[ih]
   ·cases he
  ·cases he
theorem zgu (hT:zba P T){hd:List TypeId}(hs:∀t∈hd,P.stoodInHeld t=false):∀(n:Nat) (t:TypeId) (x y:Value) (b:Bool),eqT T hd n t x y=some b→∀(d:Nat) (w:World),(Op.equalIn (d+n) t x y).run P w=.ok b w
 |0,t,x,y,b,he,d,w=>by simp[eqT]at he
 |n+1,t,x,y,b,he,d,w=>by
  unfold eqT at he
  split at he
  ·rename_i k s bb z hl
   have g:=(hT _ _ hl).und
   split at he
   ·split at he
    ·rename_i hk
     injection he with he
     subst he hk
     rw[show d+(n+1)=(d+n)+1 by omega,Op.equalIn]
     simp only[Sem.run_bind,g,Result.andThen_ok,if_true,Sem.run_pure]
    ·cases he
   ·cases he
  ·rename_i s bb z hl
   have g:=(hT _ _ hl).und
   split at he
   ·injection he with he
    subst he
    rw[show d+(n+1)=(d+n)+1 by omega,Op.equalIn]
    simp only[Sem.run_bind,g,Result.andThen_ok,Sem.run_pure]
   ·cases he
  ·rename_i fs s bb z hl
   split at he
   ·rename_i xs ys
    split at he
    ·rename_i hc
     have hu:P.underlying t=some (.struct fs):=(hT _ _ hl).1
     have hf:P.fieldsOf t=fs:=by simp[Program.fieldsOf,hu]
     rw[show d+(n+1)=(d+n)+1 by omega,run_equalIn_struct w (d+n) t xs ys (by rw[hf];exact hu) (hs t (by simpa using hc)),hf]
     exact zfF hT (fun t x y b h w=>zgu hT hs n t x y b h d w) he w
    ·cases he
   ·cases he
  ·rename_i len e s bb z hl
   split at he
   ·rename_i xs ys
    split at he
    ·rename_i te hte
     have hu:P.underlying t=some (.array len e):=(hT _ _ hl).1
     obtain⟨_,i,hi,h1,_⟩:=hT _ _ hte
     have hc:P.cellsOf e=te.size:=by simp[Program.cellsOf,hi,h1]
     rw[show d+(n+1)=(d+n)+1 by omega,run_equalIn_array w (d+n) xs ys hu hi,hc]
     exact zfG hT (fun x y b h w=>zgu hT hs n e x y b h d w) he w
    ·cases he
   ·cases he
  ·cases he
theorem ziy (hT:zba P T){b r:Bool}{n:Nat}{hd:List TypeId}{d:Tmp}{t yt:TypeId}{x y:Operand}{xs ys:Array Value}{ty pos af g}(hg:zbi ops env g=some b)(hb:b=true)(hd':Nat.blt d N=true)(hx:zaR env x=some (.agg xs))(hy:zaR env y=some (.agg ys))(he:eqT T hd n t (.agg xs) (.agg ys)=some r)(hn:n≤10000)(hs:∀t∈hd,P.stoodInHeld t=false)(hm:P.eqGuardType P.depth t=false)
 (hK:ES P W N kf ops rest ((d,.bool r)::env) h K):ES P W N kf ops (⟨some d,.binOp .eql t x y yt,ty,pos,af,g⟩::rest) env h K:=
 zbI hg hb hd' (fun a ha w=>by
  have h1:=zgu hT hs n t _ _ r he (10000 - n) w
  rw[show 10000 - n+n=10000 by omega]at h1
  simp only[execOp,ha.eval hx,ha.eval hy,Sem.run_bind,run_eqGuard_agg w .eql t x y xs ys hm,Result.andThen_ok,run_eql_struct,h1,Sem.run_pure]) hK
end
end Go.Sl
set_option linter.unusedSimpArgs false
set_option linter.unusedVariables false
namespace Go.Proofs.YteocfhdocpeokaaGreat
open Go Go.Sl
set_option maxRecDepth 100000
theorem ziz :zg5 Tryz.prog 44 :=⟨by kernel_rfl,by kernel_rfl⟩
theorem zkP :zg5 Tryz.prog 42 :=⟨by kernel_rfl,by kernel_rfl⟩
theorem ziA :∀t∈[44,42],Program.stoodInHeld Tryz.prog t=false:=fun t ht=>by
 rcases List.mem_cons.1 ht with rfl|ht
 ·exact ziz.1
 ·rw[lms.1 ht];exact zkP.1
def msgB (a b:MsgR):Bool:=(a.kind==b.kind)&&(((a.f0==b.f0)&&((a.f1==b.f1)&&((a.f2==b.f2)&&((a.f3==b.f3)&&((a.f4==b.f4)&&((a.f5==b.f5)&&true))))))&&true)
theorem ziB (a b:MsgR):msgB a b=decide (a=b):=by
 cases a;cases b
 unfold msgB
 rw[Bool.eq_iff_iff]
 simp only[Bool.and_eq_true,beq_iff_eq,decide_eq_true_eq,MsgR.mk.injEq,and_true]
theorem zlU (a b:MsgR):eqT TT [44,42] 4 42 (.agg a.enc.toArray) (.agg b.enc.toArray)=some (decide (a=b)):=by
 rw[←ziB];rfl
theorem zng (a b:OutR):eqT TT [44,42] 5 44 (.agg a.enc.toArray) (.agg b.enc.toArray)=some (decide (a=b)):=by
 have h:eqT TT [44,42] 5 44 (.agg a.enc.toArray) (.agg b.enc.toArray)=some ((a.to==b.to)&&(msgB a.msg b.msg&&true)):=rfl
 rw[h,ziB]
 cases a;cases b
 rw[Option.some.injEq,Bool.eq_iff_iff]
 simp only[Bool.and_eq_true,beq_iff_eq,decide_eq_true_eq,OutR.mk.injEq,and_true]
end Go.Proofs.YteocfhdocpeokaaGreat
set_option linter.unusedSimpArgs false
set_option linter.unusedVariables false
namespace Go.Proofs.YteocfhdocpeokaaGreat
open Go Go.Sl
attribute [local irreducible] AW ES EP Ld RetQ
set_option maxRecDepth 100000
theorem zj0 (W:World)(h:List zah)(A:Option Addr)(c:Nat)(l:List OutR)(o:OutR)(hr:zaD W h A l.length 8 (l.flatMap OutR.enc))(hb:l.length≤1000000):
 zaF Tryz.prog W 104 [.slice A l.length c,.agg o.enc.toArray] h (.int .i64 (za0 (fun x=>decide (o=x)) l)):=by
 refine zaF.ofD (fun h' hs=> ?_)
 have hrd:=hr.mono hs
 refine zaA Tryz.func104 rfl rfl Tryz.results104 Tryz.ntmps104 rfl rfl ?_
 refine zaO hrd rfl (fun hA=> ?_)
 repeat' (first
  |apply zaz|apply zaa|apply zay|apply zal|apply zam|apply zae|apply zaw
  |(apply zai hT;(iterate 4 exact rfl))|(apply zaj;(iterate 3 exact rfl))|(apply zad;(iterate 2 exact rfl))
  |(apply zax hT;(iterate 4 exact rfl);(iterate 2 (first|omega|(dsimp only;omega))))
  |(apply zar [] [] hmix;decide+kernel)
  |(apply zau;(iterate 5 exact rfl);intro g3)
  |(apply zab;(iterate 5 exact rfl);first|(apply zas hT;exact rfl;exact rfl;(repeat(first|exact List.mem_cons_self|apply List.mem_cons_of_mem|apply List.mem_append_right));exact rfl;exact rfl)|(apply zaq hT;exact rfl;exact rfl;(repeat(first|exact List.mem_cons_self|apply List.mem_cons_of_mem|apply List.mem_append_right));exact rfl))
  |(apply zau;(iterate 5 exact rfl);intro _)|(apply zac hT;(iterate 5 exact rfl);intro _)
  |(apply zaf;(iterate 2 exact rfl))|(apply zag;(iterate 2 exact rfl))
  |(apply zak;exact rfl;all_goals intro hb;all_goals(fail_if_success (change true=true at hb));all_goals(fail_if_success (change false=false at hb));all_goals(try dsimp only at hb);all_goals(try simp only[hb]);all_goals(first|replace hb:=of_decide_eq_true hb|replace hb:=of_decide_eq_false hb|replace hb:=zao hb|replace hb:=zap hb|replace hb:=eq_of_beq hb|replace hb:=ne_of_beq_false hb|skip);all_goals(try(exfalso;omega)))
  |(apply zan;exact rfl;all_goals intro hb;all_goals(try dsimp only at hb);all_goals(try simp only[hb]);all_goals(first|replace hb:=of_decide_eq_true hb|replace hb:=of_decide_eq_false hb|replace hb:=zao hb|replace hb:=zap hb|replace hb:=eq_of_beq hb|replace hb:=ne_of_beq_false hb|skip);all_goals(try(exfalso;omega))))
 refine zaX (α:=Nat) (E:=fun k=>[(0,.slice A l.length c),(3,.pointer (some ⟨g3,0,none⟩)),(7,.int .i64 l.length),(8,.int .i64 k)]) (H:=fun _=>.blk g3 44 o.enc::h') (μ:=fun k=>l.length - k)
  (S:=fun k=>k≤l.length∧∀(j:Nat) y,j<k→l[j]? =some y→decide (o=y)=false) 0 ⟨Nat.zero_le _,fun j y hj=>absurd hj (Nat.not_lt_zero _)⟩ ⟨rfl,rfl,rfl,rfl,trivial⟩ dX ?_
 rintro k ⟨hk,hno⟩
 by_cases hlt:k<l.length
 ·obtain⟨x,hx⟩:∃x,l[k]? =some x:=⟨l[k]'(by omega),gge (by omega)⟩
  have hx2:l[(k:Int).toNat]? =some x:=by simpa using hx
  have hA':=hA (by omega)
  have hd1:decide ((k:Int)<(l.length:Int))=true:=by simp;omega
  have he:=zng o x
  cases hox:decide (o=x)
  ·rw[hox]at he
   repeat' (first
    |apply zaz|apply zaa|apply zay|apply zal|apply zam|apply zae|apply zaw
    |(apply zai hT;(iterate 4 exact rfl))|(apply zaj;(iterate 3 exact rfl))|(apply zad;(iterate 2 exact rfl))
    |(apply zax hT;(iterate 4 exact rfl);(iterate 2 (first|omega|(dsimp only;omega))))
    |(apply zar [] [] hmix;decide+kernel)
    |(apply zaU hT;(iterate 8 exact rfl);(iterate 2 omega);exact hA')
    |(apply zab;(iterate 5 exact rfl);exact zaY hT rfl rfl (hrd.mono (by(intro c hc;(repeat(first|exact hc|apply List.mem_cons_of_mem|apply List.mem_append_right))))) OutR.enc_len rfl hx2 rfl)
    |(apply ziy hT;(iterate 5 exact rfl);exact he;decide;exact ziA;exact ziz.2)
    |(apply zab;(iterate 5 exact rfl);first|(apply zas hT;exact rfl;exact rfl;(repeat(first|exact List.mem_cons_self|apply List.mem_cons_of_mem|apply List.mem_append_right));exact rfl;exact rfl)|(apply zaq hT;exact rfl;exact rfl;(repeat(first|exact List.mem_cons_self|apply List.mem_cons_of_mem|apply List.mem_append_right));exact rfl))
    |(apply zau;(iterate 5 exact rfl);intro _)|(apply zac hT;(iterate 5 exact rfl);intro _)
    |(apply zaf;(iterate 2 exact rfl))|(apply zag;(iterate 2 exact rfl))
    |(apply zak;exact rfl;all_goals intro hb;all_goals(fail_if_success (change true=true at hb));all_goals(fail_if_success (change false=false at hb));all_goals(try dsimp only at hb);all_goals(try simp only[hb]);all_goals(first|replace hb:=of_decide_eq_true hb|replace hb:=of_decide_eq_false hb|replace hb:=zao hb|replace hb:=zap hb|replace hb:=eq_of_beq hb|replace hb:=ne_of_beq_false hb|skip);all_goals(try(exfalso;omega)))
    |(apply zan;exact rfl;all_goals intro hb;all_goals(try dsimp only at hb);all_goals(try simp only[hb]);all_goals(first|replace hb:=of_decide_eq_true hb|replace hb:=of_decide_eq_false hb|replace hb:=zao hb|replace hb:=zap hb|replace hb:=eq_of_beq hb|replace hb:=ne_of_beq_false hb|skip);all_goals(try(exfalso;omega))))
   all_goals first
    |(exfalso;omega)
    |exact zaM (k+1) (by(try dsimp only);omega) ⟨by(try dsimp only);omega,fun j y hj hy=>by
      by_cases e:j=k
      ·rw[e,hx]at hy;cases hy;exact hox
      ·exact hno j y (by(try dsimp only at hj);omega) hy⟩ ⟨rfl,rfl,rfl,rfl,trivial⟩ dX
    |skip
  ·rw[hox]at he
   repeat' (first
    |apply zaz|apply zaa|apply zay|apply zal|apply zam|apply zae|apply zaw
    |(apply zai hT;(iterate 4 exact rfl))|(apply zaj;(iterate 3 exact rfl))|(apply zad;(iterate 2 exact rfl))
    |(apply zax hT;(iterate 4 exact rfl);(iterate 2 (first|omega|(dsimp only;omega))))
    |(apply zar [] [] hmix;decide+kernel)
    |(apply zaU hT;(iterate 8 exact rfl);(iterate 2 omega);exact hA')
    |(apply zab;(iterate 5 exact rfl);exact zaY hT rfl rfl (hrd.mono (by(intro c hc;(repeat(first|exact hc|apply List.mem_cons_of_mem|apply List.mem_append_right))))) OutR.enc_len rfl hx2 rfl)
    |(apply ziy hT;(iterate 5 exact rfl);exact he;decide;exact ziA;exact ziz.2)
    |(apply zab;(iterate 5 exact rfl);first|(apply zas hT;exact rfl;exact rfl;(repeat(first|exact List.mem_cons_self|apply List.mem_cons_of_mem|apply List.mem_append_right));exact rfl;exact rfl)|(apply zaq hT;exact rfl;exact rfl;(repeat(first|exact List.mem_cons_self|apply List.mem_cons_of_mem|apply List.mem_append_right));exact rfl))
    |(apply zau;(iterate 5 exact rfl);intro _)|(apply zac hT;(iterate 5 exact rfl);intro _)
    |(apply zaf;(iterate 2 exact rfl))|(apply zag;(iterate 2 exact rfl))
    |(apply zak;exact rfl;all_goals intro hb;all_goals(fail_if_success (change true=true at hb));all_goals(fail_if_success (change false=false at hb));all_goals(try dsimp only at hb);all_goals(try simp only[hb]);all_goals(first|replace hb:=of_decide_eq_true hb|replace hb:=of_decide_eq_false hb|replace hb:=zao hb|replace hb:=zap hb|replace hb:=eq_of_beq hb|replace hb:=ne_of_beq_false hb|skip);all_goals(try(exfalso;omega)))
    |(apply zan;exact rfl;all_goals intro hb;all_goals(try dsimp only at hb);all_goals(try simp only[hb]);all_goals(first|replace hb:=of_decide_eq_true hb|replace hb:=of_decide_eq_false hb|replace hb:=zao hb|replace hb:=zap hb|replace hb:=eq_of_beq hb|replace hb:=ne_of_beq_false hb|skip);all_goals(try(exfalso;omega))))
   all_goals first
    |(exfalso;omega)
    |(apply ret1;exact rfl;exact⟨by rw[zc9 hx hox hno],dX⟩)
    |skip
 ·obtain rfl:k=l.length:=by omega
  have hd1:decide ((l.length:Int)<(l.length:Int))=false:=by simp
  repeat' (first
   |apply zaz|apply zaa|apply zay|apply zal|apply zam|apply zae|apply zaw
   |(apply zai hT;(iterate 4 exact rfl))|(apply zaj;(iterate 3 exact rfl))|(apply zad;(iterate 2 exact rfl))
   |(apply zax hT;(iterate 4 exact rfl);(iterate 2 (first|omega|(dsimp only;omega))))
   |(apply zar [] [] hmix;decide+kernel)
   |(apply zab;(iterate 5 exact rfl);first|(apply zas hT;exact rfl;exact rfl;(repeat(first|exact List.mem_cons_self|apply List.mem_cons_of_mem|apply List.mem_append_right));exact rfl;exact rfl)|(apply zaq hT;exact rfl;exact rfl;(repeat(first|exact List.mem_cons_self|apply List.mem_cons_of_mem|apply List.mem_append_right));exact rfl))
   |(apply zau;(iterate 5 exact rfl);intro _)|(apply zac hT;(iterate 5 exact rfl);intro _)
   |(apply zaf;(iterate 2 exact rfl))|(apply zag;(iterate 2 exact rfl))
   |(apply zak;exact rfl;all_goals intro hb;all_goals(fail_if_success (change true=true at hb));all_goals(fail_if_success (change false=false at hb));all_goals(try dsimp only at hb);all_goals(try simp only[hb]);all_goals(first|replace hb:=of_decide_eq_true hb|replace hb:=of_decide_eq_false hb|replace hb:=zao hb|replace hb:=zap hb|replace hb:=eq_of_beq hb|replace hb:=ne_of_beq_false hb|skip);all_goals(try(exfalso;omega)))
   |(apply zan;exact rfl;all_goals intro hb;all_goals(try dsimp only at hb);all_goals(try simp only[hb]);all_goals(first|replace hb:=of_decide_eq_true hb|replace hb:=of_decide_eq_false hb|replace hb:=zao hb|replace hb:=zap hb|replace hb:=eq_of_beq hb|replace hb:=ne_of_beq_false hb|skip);all_goals(try(exfalso;omega))))
  all_goals first
   |(exfalso;omega)
   |(apply ret1;exact rfl;exact⟨by rw[zbA (fun(j:Nat) y hj=>hno j y (gsi.1 hj).1 hj)],dX⟩)
   |skip
theorem zgv (W:World)(h:List zah)(A:Option Addr)(c:Nat)(l:List OutR)(o:OutR)(hr:zaD W h A l.length 8 (l.flatMap OutR.enc))(hb:l.length≤1000000):
 zaF Tryz.prog W 72 [.slice A l.length c,.agg o.enc.toArray] h (.bool (decide (za0 (fun x=>decide (o=x)) l≥0))):=by
 refine zaF.ofD (fun h' hs=> ?_)
 have hi:=(zj0 W h A c l o hr hb).mono hs
 refine zaA Tryz.func72 rfl rfl Tryz.results72 Tryz.ntmps72 rfl rfl ?_
 repeat' (first
  |apply zaz|apply zaa|apply zay|apply zal|apply zam|apply zae|apply zaw
  |(apply zai hT;(iterate 4 exact rfl))|(apply zaj;(iterate 3 exact rfl))|(apply zad;(iterate 2 exact rfl))
  |(apply zax hT;(iterate 4 exact rfl);(iterate 2 (first|omega|(dsimp only;omega))))
  |(apply zar [] [] hmix;decide+kernel)
  |(apply zau;(iterate 5 exact rfl);intro g3)
  |(apply zaC (hs:=(hi.mono (by(intro c hc;(repeat(first|exact hc|apply List.mem_cons_of_mem|apply List.mem_append_right))))));(iterate 7 exact rfl))
  |(apply zab;(iterate 5 exact rfl);first|(apply zas hT;exact rfl;exact rfl;(repeat(first|exact List.mem_cons_self|apply List.mem_cons_of_mem|apply List.mem_append_right));exact rfl;exact rfl)|(apply zaq hT;exact rfl;exact rfl;(repeat(first|exact List.mem_cons_self|apply List.mem_cons_of_mem|apply List.mem_append_right));exact rfl))
  |(apply zau;(iterate 5 exact rfl);intro _)|(apply zac hT;(iterate 5 exact rfl);intro _)
  |(apply zaf;(iterate 2 exact rfl))|(apply zag;(iterate 2 exact rfl))
  |(apply zak;exact rfl;all_goals intro hb;all_goals(fail_if_success (change true=true at hb));all_goals(fail_if_success (change false=false at hb));all_goals(try dsimp only at hb);all_goals(try simp only[hb]);all_goals(first|replace hb:=of_decide_eq_true hb|replace hb:=of_decide_eq_false hb|replace hb:=zao hb|replace hb:=zap hb|replace hb:=eq_of_beq hb|replace hb:=ne_of_beq_false hb|skip);all_goals(try(exfalso;omega)))
  |(apply zan;exact rfl;all_goals intro hb;all_goals(try dsimp only at hb);all_goals(try simp only[hb]);all_goals(first|replace hb:=of_decide_eq_true hb|replace hb:=of_decide_eq_false hb|replace hb:=zao hb|replace hb:=zap hb|replace hb:=eq_of_beq hb|replace hb:=ne_of_beq_false hb|skip);all_goals(try(exfalso;omega))))
 all_goals first
  |(apply ret1;exact rfl;exact⟨rfl,dX⟩)
  |skip
theorem ziC (t:zaB)(who:Int)(m:MsgR):decide (za0 (fun x=>decide ((⟨who,m⟩:OutR)=x)) (zbz t)≥0)=zbQ t who m:=by
 unfold zbQ zbz
 simp only[za0,List.any_cons,List.any_nil,Bool.or_false,eq_comm (a:=(⟨who,m⟩:OutR))]
 split
 ·rename_i h;simp[h]
 ·rename_i h
  split
  ·rename_i h2;simp[h2]
  ·rename_i h2;simp_all
theorem zg7 (W:World)(h:List zah)(t:zaB):zaL Tryz.prog W 73 [.agg t.enc.toArray] h (fun v h'=>∃g,v=.slice (some ⟨g,0,none⟩) (zbz t).length 2∧h'=.own (some ⟨g,0,none⟩) 2 2 44 8 ((zbz t).flatMap OutR.enc)::h):=zla W h t
theorem zd9 {who:Int}{m:MsgR}{l:List zaB}{k:Nat}{t:zaB}(ht:l[k]? =some t):zbk who m (l.drop k) k=if zbQ t who m then some k else zbk who m (l.drop (k+1)) (k+1):=by
 obtain⟨hk,rfl⟩:=gsi.1 ht
 rw[List.drop_eq_getElem_cons hk];rfl
def atV (o:Option Nat):Int:=match o with
 |some i=>i
 |none=> -1
theorem zhv (W:World)(h:List zah)(A:Option Addr)(c:Nat)(l:List zaB)(hr:zaD W h A l.length 8 (l.flatMap zaB.enc))(hb:l.length≤1000000)(who:Int)(m:MsgR)(i:Nat)(hi:i≤l.length):
 zaF Tryz.prog W 41 [.slice A l.length c,.int .i64 who,.agg m.enc.toArray,.int .i64 i] h (.int .i64 (atV (zbk who m (l.drop i) i))):=by
 refine zaF.ofD (fun h' hs=> ?_)
 have hrd:=hr.mono hs
 refine zaA Tryz.func41 rfl rfl Tryz.results41 Tryz.ntmps41 rfl rfl ?_
 refine zaO hrd rfl (fun hA=> ?_)
 repeat' (first
  |apply zaz|apply zaa|apply zay|apply zal|apply zam|apply zae|apply zaw
  |(apply zai hT;(iterate 4 exact rfl))|(apply zaj;(iterate 3 exact rfl))|(apply zad;(iterate 2 exact rfl))
  |(apply zax hT;(iterate 4 exact rfl);(iterate 2 (first|omega|(dsimp only;omega))))
  |(apply zar [] [] hmix;decide+kernel)
  |(apply zau;(iterate 5 exact rfl);intro g6)
  |(apply zab;(iterate 5 exact rfl);first|(apply zas hT;exact rfl;exact rfl;(repeat(first|exact List.mem_cons_self|apply List.mem_cons_of_mem|apply List.mem_append_right));exact rfl;exact rfl)|(apply zaq hT;exact rfl;exact rfl;(repeat(first|exact List.mem_cons_self|apply List.mem_cons_of_mem|apply List.mem_append_right));exact rfl))
  |(apply zau;(iterate 5 exact rfl);intro _)|(apply zac hT;(iterate 5 exact rfl);intro _)
  |(apply zaf;(iterate 2 exact rfl))|(apply zag;(iterate 2 exact rfl))
  |(apply zak;exact rfl;all_goals intro hb;all_goals(fail_if_success (change true=true at hb));all_goals(fail_if_success (change false=false at hb));all_goals(try dsimp only at hb);all_goals(try simp only[hb]);all_goals(first|replace hb:=of_decide_eq_true hb|replace hb:=of_decide_eq_false hb|replace hb:=zao hb|replace hb:=zap hb|replace hb:=eq_of_beq hb|replace hb:=ne_of_beq_false hb|skip);all_goals(try(exfalso;omega)))
  |(apply zan;exact rfl;all_goals intro hb;all_goals(try dsimp only at hb);all_goals(try simp only[hb]);all_goals(first|replace hb:=of_decide_eq_true hb|replace hb:=of_decide_eq_false hb|replace hb:=zao hb|replace hb:=zap hb|replace hb:=eq_of_beq hb|replace hb:=ne_of_beq_false hb|skip);all_goals(try(exfalso;omega))))
 refine zaX (α:=Nat) (E:=fun k=>[(0,.slice A l.length c),(1,.int .i64 who),(6,.pointer (some ⟨g6,0,none⟩)),(9,.int .i64 k)]) (H:=fun _=>.blk g6 42 m.enc::h') (μ:=fun k=>l.length - k)
  (S:=fun k=>k≤l.length∧zbk who m (l.drop i) i=zbk who m (l.drop k) k) i ⟨hi,rfl⟩ ⟨rfl,rfl,rfl,rfl,trivial⟩ dX ?_
 rintro k ⟨hk,hat⟩
 by_cases hlt:k<l.length
 ·obtain⟨t,ht⟩:∃t,l[k]? =some t:=⟨l[k]'(by omega),gge (by omega)⟩
  have ht2:l[(k:Int).toNat]? =some t:=by simpa using ht
  have hA':=hA (by omega)
  have hd1:decide ((k:Int)<(l.length:Int))=true:=by simp;omega
  rw[zd9 ht]at hat
  have hC:=fun k g (hm:zah.own (some ⟨g,0,none⟩) 2 2 44 8 ((zbz t).flatMap OutR.enc)∈k)=>(zgv W k (some ⟨g,0,none⟩) 2 (zbz t) ⟨who,m⟩ (zaD.enc OutR.enc_len OutR.enc_one hm rfl) (by show 2≤1000000;omega)).cast (u:=.bool (zbQ t who m)) (by rw[ziC])
  cases hto:zbQ t who m
  ·rw[hto]at hC hat
   repeat' (first
    |apply zaz|apply zaa|apply zay|apply zal|apply zam|apply zae|apply zaw
    |(apply zai hT;(iterate 4 exact rfl))|(apply zaj;(iterate 3 exact rfl))|(apply zad;(iterate 2 exact rfl))
    |(apply zax hT;(iterate 4 exact rfl);(iterate 2 (first|omega|(dsimp only;omega))))
    |(apply zar [] [] hmix;decide+kernel)
    |(apply zbj [72] [73] (.step 0 <| .step 1 <| .step 2 <| .step 3 <| .step 5 <| .step 6 <| .step 7 <| .step 4 <| .step 8 <| .nil) hmix;decide+kernel)|apply zbX|apply zbY|(apply zbx;exact rfl)
    |(apply zaU hT;(iterate 8 exact rfl);(iterate 2 omega);exact hA')
    |(apply zab;(iterate 5 exact rfl);first|exact zaY hT rfl rfl (hrd.mono (by(intro c hc;(repeat(first|exact hc|apply List.mem_cons_of_mem|apply List.mem_append_right))))) zaB.enc_len rfl ht2 rfl|(apply zaq hT;exact rfl;exact rfl;(repeat(first|exact List.mem_cons_self|apply List.mem_cons_of_mem|apply List.mem_append_right));exact rfl))
    |(apply zbW (hs:=(zg7 W _ t));(iterate 7 exact rfl);(rintro _ _ ⟨g21,rfl,rfl⟩;refine⟨[_],rfl,?_⟩))
    |(apply zaQ hT (cs:=OutR.enc ⟨who,m⟩);(iterate 4 exact rfl))
    |(apply zaC (hs:=(hC _ g21 (by(repeat(first|exact List.mem_cons_self|apply List.mem_cons_of_mem|apply List.mem_append_right)))));(iterate 7 exact rfl))
    |(apply zab;(iterate 5 exact rfl);first|(apply zas hT;exact rfl;exact rfl;(repeat(first|exact List.mem_cons_self|apply List.mem_cons_of_mem|apply List.mem_append_right));exact rfl;exact rfl)|(apply zaq hT;exact rfl;exact rfl;(repeat(first|exact List.mem_cons_self|apply List.mem_cons_of_mem|apply List.mem_append_right));exact rfl))
    |(apply zau;(iterate 5 exact rfl);intro _)|(apply zac hT;(iterate 5 exact rfl);intro _)
    |(apply zaf;(iterate 2 exact rfl))|(apply zag;(iterate 2 exact rfl))
    |(apply zak;exact rfl;all_goals intro hb;all_goals(fail_if_success (change true=true at hb));all_goals(fail_if_success (change false=false at hb));all_goals(try dsimp only at hb);all_goals(try simp only[hb]);all_goals(first|replace hb:=of_decide_eq_true hb|replace hb:=of_decide_eq_false hb|replace hb:=zao hb|replace hb:=zap hb|replace hb:=eq_of_beq hb|replace hb:=ne_of_beq_false hb|skip);all_goals(try(exfalso;omega)))
    |(apply zan;exact rfl;all_goals intro hb;all_goals(try dsimp only at hb);all_goals(try simp only[hb]);all_goals(first|replace hb:=of_decide_eq_true hb|replace hb:=of_decide_eq_false hb|replace hb:=zao hb|replace hb:=zap hb|replace hb:=eq_of_beq hb|replace hb:=ne_of_beq_false hb|skip);all_goals(try(exfalso;omega))))
   all_goals first
    |(exfalso;omega)
    |exact zaM (k+1) (by(try dsimp only);omega) ⟨by(try dsimp only);omega,hat⟩ ⟨rfl,rfl,rfl,rfl,trivial⟩ dX
    |skip
  ·rw[hto,if_pos rfl]at hat
   rw[hto]at hC
   repeat' (first
    |apply zaz|apply zaa|apply zay|apply zal|apply zam|apply zae|apply zaw
    |(apply zai hT;(iterate 4 exact rfl))|(apply zaj;(iterate 3 exact rfl))|(apply zad;(iterate 2 exact rfl))
    |(apply zax hT;(iterate 4 exact rfl);(iterate 2 (first|omega|(dsimp only;omega))))
    |(apply zar [] [] hmix;decide+kernel)
    |(apply zbj [72] [73] (.step 0 <| .step 1 <| .step 2 <| .step 3 <| .step 5 <| .step 6 <| .step 7 <| .step 4 <| .step 8 <| .nil) hmix;decide+kernel)|apply zbX|apply zbY|(apply zbx;exact rfl)
    |(apply zaU hT;(iterate 8 exact rfl);(iterate 2 omega);exact hA')
    |(apply zab;(iterate 5 exact rfl);first|exact zaY hT rfl rfl (hrd.mono (by(intro c hc;(repeat(first|exact hc|apply List.mem_cons_of_mem|apply List.mem_append_right))))) zaB.enc_len rfl ht2 rfl|(apply zaq hT;exact rfl;exact rfl;(repeat(first|exact List.mem_cons_self|apply List.mem_cons_of_mem|apply List.mem_append_right));exact rfl))
    |(apply zbW (hs:=(zg7 W _ t));(iterate 7 exact rfl);(rintro _ _ ⟨g21,rfl,rfl⟩;refine⟨[_],rfl,?_⟩))
    |(apply zaQ hT (cs:=OutR.enc ⟨who,m⟩);(iterate 4 exact rfl))
    |(apply zaC (hs:=(hC _ g21 (by(repeat(first|exact List.mem_cons_self|apply List.mem_cons_of_mem|apply List.mem_append_right)))));(iterate 7 exact rfl))
    |(apply zab;(iterate 5 exact rfl);first|(apply zas hT;exact rfl;exact rfl;(repeat(first|exact List.mem_cons_self|apply List.mem_cons_of_mem|apply List.mem_append_right));exact rfl;exact rfl)|(apply zaq hT;exact rfl;exact rfl;(repeat(first|exact List.mem_cons_self|apply List.mem_cons_of_mem|apply List.mem_append_right));exact rfl))
    |(apply zau;(iterate 5 exact rfl);intro _)|(apply zac hT;(iterate 5 exact rfl);intro _)
    |(apply zaf;(iterate 2 exact rfl))|(apply zag;(iterate 2 exact rfl))
    |(apply zak;exact rfl;all_goals intro hb;all_goals(fail_if_success (change true=true at hb));all_goals(fail_if_success (change false=false at hb));all_goals(try dsimp only at hb);all_goals(try simp only[hb]);all_goals(first|replace hb:=of_decide_eq_true hb|replace hb:=of_decide_eq_false hb|replace hb:=zao hb|replace hb:=zap hb|replace hb:=eq_of_beq hb|replace hb:=ne_of_beq_false hb|skip);all_goals(try(exfalso;omega)))
    |(apply zan;exact rfl;all_goals intro hb;all_goals(try dsimp only at hb);all_goals(try simp only[hb]);all_goals(first|replace hb:=of_decide_eq_true hb|replace hb:=of_decide_eq_false hb|replace hb:=zao hb|replace hb:=zap hb|replace hb:=eq_of_beq hb|replace hb:=ne_of_beq_false hb|skip);all_goals(try(exfalso;omega))))
   all_goals first
    |(exfalso;omega)
    |(apply ret1;exact rfl;exact⟨by rw[hat];rfl,dX⟩)
    |skip
 ·obtain rfl:k=l.length:=by omega
  have hd1:decide ((l.length:Int)<(l.length:Int))=false:=by simp
  rw[List.drop_length]at hat
  repeat' (first
   |apply zaz|apply zaa|apply zay|apply zal|apply zam|apply zae|apply zaw
   |(apply zai hT;(iterate 4 exact rfl))|(apply zaj;(iterate 3 exact rfl))|(apply zad;(iterate 2 exact rfl))
   |(apply zax hT;(iterate 4 exact rfl);(iterate 2 (first|omega|(dsimp only;omega))))
   |(apply zar [] [] hmix;decide+kernel)
   |(apply zab;(iterate 5 exact rfl);first|(apply zas hT;exact rfl;exact rfl;(repeat(first|exact List.mem_cons_self|apply List.mem_cons_of_mem|apply List.mem_append_right));exact rfl;exact rfl)|(apply zaq hT;exact rfl;exact rfl;(repeat(first|exact List.mem_cons_self|apply List.mem_cons_of_mem|apply List.mem_append_right));exact rfl))
   |(apply zau;(iterate 5 exact rfl);intro _)|(apply zac hT;(iterate 5 exact rfl);intro _)
   |(apply zaf;(iterate 2 exact rfl))|(apply zag;(iterate 2 exact rfl))
   |(apply zak;exact rfl;all_goals intro hb;all_goals(fail_if_success (change true=true at hb));all_goals(fail_if_success (change false=false at hb));all_goals(try dsimp only at hb);all_goals(try simp only[hb]);all_goals(first|replace hb:=of_decide_eq_true hb|replace hb:=of_decide_eq_false hb|replace hb:=zao hb|replace hb:=zap hb|replace hb:=eq_of_beq hb|replace hb:=ne_of_beq_false hb|skip);all_goals(try(exfalso;omega)))
   |(apply zan;exact rfl;all_goals intro hb;all_goals(try dsimp only at hb);all_goals(try simp only[hb]);all_goals(first|replace hb:=of_decide_eq_true hb|replace hb:=of_decide_eq_false hb|replace hb:=zao hb|replace hb:=zap hb|replace hb:=eq_of_beq hb|replace hb:=ne_of_beq_false hb|skip);all_goals(try(exfalso;omega))))
  all_goals first
   |(exfalso;omega)
   |(apply ret1;exact rfl;exact⟨by rw[hat];rfl,dX⟩)
   |skip
structure MRow where
 A:Option Addr
 c:Nat
 l:List MsgR
def MRow.hd (r:MRow):Value:=.slice r.A r.l.length r.c
def MRow.ck (r:MRow):zah:=.own r.A r.l.length r.c 42 7 (r.l.flatMap MsgR.enc)
theorem zdR {rs:List MRow}{i:Nat}{a:MRow}(h:rs[i]? =some a):(rs.map MRow.hd)[i*1]? =some (.slice a.A a.l.length a.c):=by simp[h];rfl
theorem zdC {l:List zaB}{who:Int}{ms:List MsgR}{k:Nat}{m:MsgR}(hm:ms[k]? =some m)(i:Nat):zaK l who (ms.drop k) i=if m.kind≠28 then zaK l who (ms.drop (k+1)) i else match zbk who m (l.drop i) i with
 |none=>false
 |some j=>zaK l who (ms.drop (k+1)) (j+1):=by
 obtain⟨hk,rfl⟩:=gsi.1 hm
 rw[List.drop_eq_getElem_cons hk]
 rfl
theorem ziD {who:Int}{m:MsgR}{l:List zaB}{i j:Nat}(h:zbk who m (l.drop i) i=some j):j<l.length:=by
 obtain⟨_,t,ht,_⟩:=zbB _ rfl h
 exact(gsi.1 ht).1
theorem zeT (W:World)(h:List zah)(A:Option Addr)(c:Nat)(l:List zaB)(hr:zaD W h A l.length 8 (l.flatMap zaB.enc))(hb:l.length≤1000000)(AT:Option Addr)(cT:Nat)(rs:List MRow)(hrT:zaD W h AT rs.length 1 (rs.map MRow.hd))(hrs:∀r∈rs,zaD W h r.A r.l.length 7 (r.l.flatMap MsgR.enc))(hbT:rs.length≤1000000)(hbr:∀r∈rs,r.l.length≤1000000):
 zaF Tryz.prog W 14 [.slice A l.length c,.slice AT rs.length cT] h (.bool (zcL l (rs.map MRow.l))):=by
 refine zaF.ofD (fun h' hs=> ?_)
 have hrd:=hr.mono hs
 have hrT':=hrT.mono hs
 have hTo:=fun who m i hi k (hk:∀c∈h',c∈k)=>zhv W k A c l (hrd.mono hk) hb who m i hi
 refine zaA Tryz.func14 rfl rfl Tryz.results14 Tryz.ntmps14 rfl rfl ?_
 refine zaO hrT' rfl (fun hAT=> ?_)
 repeat' (first
  |apply zaz|apply zaa|apply zay|apply zal|apply zam|apply zae|apply zaw
  |(apply zai hT;(iterate 4 exact rfl))|(apply zaj;(iterate 3 exact rfl))|(apply zad;(iterate 2 exact rfl))
  |(apply zax hT;(iterate 4 exact rfl);(iterate 2 (first|omega|(dsimp only;omega))))
  |(apply zar [] [] hmix;decide+kernel)
  |(apply zab;(iterate 5 exact rfl);first|(apply zas hT;exact rfl;exact rfl;(repeat(first|exact List.mem_cons_self|apply List.mem_cons_of_mem|apply List.mem_append_right));exact rfl;exact rfl)|(apply zaq hT;exact rfl;exact rfl;(repeat(first|exact List.mem_cons_self|apply List.mem_cons_of_mem|apply List.mem_append_right));exact rfl))
  |(apply zau;(iterate 5 exact rfl);intro _)|(apply zac hT;(iterate 5 exact rfl);intro _)
  |(apply zaf;(iterate 2 exact rfl))|(apply zag;(iterate 2 exact rfl))
  |(apply zak;exact rfl;all_goals intro hb;all_goals(fail_if_success (change true=true at hb));all_goals(fail_if_success (change false=false at hb));all_goals(try dsimp only at hb);all_goals(try simp only[hb]);all_goals(first|replace hb:=of_decide_eq_true hb|replace hb:=of_decide_eq_false hb|replace hb:=zao hb|replace hb:=zap hb|replace hb:=eq_of_beq hb|replace hb:=ne_of_beq_false hb|skip);all_goals(try(exfalso;omega)))
  |(apply zan;exact rfl;all_goals intro hb;all_goals(try dsimp only at hb);all_goals(try simp only[hb]);all_goals(first|replace hb:=of_decide_eq_true hb|replace hb:=of_decide_eq_false hb|replace hb:=zao hb|replace hb:=zap hb|replace hb:=eq_of_beq hb|replace hb:=ne_of_beq_false hb|skip);all_goals(try(exfalso;omega))))
 refine zaX (α:=Nat) (E:=fun k=>[(0,.slice A l.length c),(11,.slice AT rs.length cT),(12,.int .i64 rs.length),(13,.int .i64 k)]) (H:=fun _=>h') (μ:=fun k=>rs.length - k)
  (S:=fun k=>k≤rs.length∧∀(j:Nat) r,j<k→rs[j]? =some r→zaK l j r.l 0=true) 0 ⟨Nat.zero_le _,fun j r hj=>absurd hj (Nat.not_lt_zero _)⟩ ⟨rfl,rfl,rfl,rfl,trivial⟩ dX ?_
 rintro k ⟨hk,hgd⟩
 by_cases hlt:k<rs.length
 ·obtain⟨r,hx⟩:∃r,rs[k]? =some r:=⟨rs[k]'(by omega),gge (by omega)⟩
  have hx2:rs[(k:Int).toNat]? =some r:=by simpa using hx
  have hrm:=mog hx
  have hrr:=(hrs r hrm).mono hs
  have hbl:=hbr r hrm
  have hAT':=hAT (by omega)
  have hd1:decide ((k:Int)<(rs.length:Int))=true:=by simp;omega
  have hix:=zdR hx2
  refine zaO hrr rfl (fun hAr=> ?_)
  repeat' (first
   |apply zaz|apply zaa|apply zay|apply zal|apply zam|apply zae|apply zaw
   |(apply zai hT;(iterate 4 exact rfl))|(apply zaj;(iterate 3 exact rfl))|(apply zad;(iterate 2 exact rfl))
   |(apply zax hT;(iterate 4 exact rfl);(iterate 2 (first|omega|(dsimp only;omega))))
   |(apply zar [] [] hmix;decide+kernel)
   |(apply zaU hT;(iterate 8 exact rfl);(iterate 2 omega);exact hAT')
   |(apply zab;(iterate 5 exact rfl);exact zbd hT rfl rfl hrT' rfl hix)
   |(apply zab;(iterate 5 exact rfl);first|(apply zas hT;exact rfl;exact rfl;(repeat(first|exact List.mem_cons_self|apply List.mem_cons_of_mem|apply List.mem_append_right));exact rfl;exact rfl)|(apply zaq hT;exact rfl;exact rfl;(repeat(first|exact List.mem_cons_self|apply List.mem_cons_of_mem|apply List.mem_append_right));exact rfl))
   |(apply zau;(iterate 5 exact rfl);intro _)|(apply zac hT;(iterate 5 exact rfl);intro _)
   |(apply zaf;(iterate 2 exact rfl))|(apply zag;(iterate 2 exact rfl))
   |(apply zak;exact rfl;all_goals intro hb;all_goals(fail_if_success (change true=true at hb));all_goals(fail_if_success (change false=false at hb));all_goals(try dsimp only at hb);all_goals(try simp only[hb]);all_goals(first|replace hb:=of_decide_eq_true hb|replace hb:=of_decide_eq_false hb|replace hb:=zao hb|replace hb:=zap hb|replace hb:=eq_of_beq hb|replace hb:=ne_of_beq_false hb|skip);all_goals(try(exfalso;omega)))
   |(apply zan;exact rfl;all_goals intro hb;all_goals(try dsimp only at hb);all_goals(try simp only[hb]);all_goals(first|replace hb:=of_decide_eq_true hb|replace hb:=of_decide_eq_false hb|replace hb:=zao hb|replace hb:=zap hb|replace hb:=eq_of_beq hb|replace hb:=ne_of_beq_false hb|skip);all_goals(try(exfalso;omega))))
  all_goals try(exfalso;omega)
  refine zaX (α:=Nat×Nat) (E:=fun x=>[(0,.slice A l.length c),(5,.int .i64 k),(7,.int .i64 x.2),(11,.slice AT rs.length cT),(12,.int .i64 rs.length),(13,.int .i64 k),(18,.slice r.A r.l.length r.c),(19,.int .i64 r.l.length),(20,.int .i64 x.1)]) (H:=fun _=>h') (μ:=fun x=>r.l.length - x.1)
   (S:=fun x=>x.1≤r.l.length∧x.2≤l.length∧zaK l k r.l 0=zaK l k (r.l.drop x.1) x.2) (0,0) ⟨Nat.zero_le _,Nat.zero_le _,rfl⟩ ⟨rfl,rfl,rfl,rfl,rfl,rfl,rfl,rfl,rfl,trivial⟩ dX ?_
  rintro⟨q,i⟩ ⟨hq,hi,htr⟩
  dsimp only at hq hi htr ⊢
  by_cases hlq:q<r.l.length
  ·obtain⟨m,hm⟩:∃m,r.l[q]? =some m:=⟨r.l[q]'(by omega),gge (by omega)⟩
   have hm2:r.l[(q:Int).toNat]? =some m:=by simpa using hm
   have hAr':=hAr (by omega)
   have hd2:decide ((q:Int)<(r.l.length:Int))=true:=by simp;omega
   rw[zdC hm]at htr
   have hTm:=hTo k m i hi
   by_cases hkd:m.kind=28
   ·rw[if_neg (by simp[hkd])]at htr
    rcases hat:zbk k m (l.drop i) i with _|j
    ·rw[hat]at hTm htr
     dsimp only[atV]at hTm htr
     have hbad:zcL l (rs.map MRow.l)=false:=zdb (i:=k) (r:=r.l) (by rw[List.getElem?_map,hx];rfl) htr
     repeat' (first
      |(apply zb0 hT;(iterate 5 exact rfl))
      |apply zaz|apply zaa|apply zay|apply zal|apply zam|apply zae|apply zaw
      |(apply zai hT;(iterate 4 exact rfl))|(apply zaj;(iterate 3 exact rfl))|(apply zad;(iterate 2 exact rfl))
      |(apply zax hT;(iterate 4 exact rfl);(iterate 2 (first|omega|(dsimp only;omega))))
      |(apply zar [] [] hmix;decide+kernel)
      |(apply zaU hT;(iterate 8 exact rfl);(iterate 2 omega);exact hAr')
      |(apply zab;(iterate 5 exact rfl);first|exact zaY hT rfl rfl (hrr.mono (by(intro c hc;(repeat(first|exact hc|apply List.mem_cons_of_mem|apply List.mem_append_right))))) MsgR.enc_len rfl hm2 rfl|(apply zaq hT;exact rfl;exact rfl;(repeat(first|exact List.mem_cons_self|apply List.mem_cons_of_mem|apply List.mem_append_right));exact rfl))
      |(apply zac hT;(iterate 5 exact rfl);first|((fail_if_success (have q:=g9));intro g9)|intro _)
      |(apply zaP hT;(iterate 6 exact rfl);exact sX;(iterate 3 exact rfl);exact Nat.le_of_ble_eq_true rfl)
      |(apply zaC (hs:=(hTm _ (by(intro c hc;(repeat(first|exact hc|apply List.mem_cons_of_mem|apply List.mem_append_right))))));(iterate 7 exact rfl))
      |(apply zab;(iterate 5 exact rfl);first|(apply zas hT;exact rfl;exact rfl;(repeat(first|exact List.mem_cons_self|apply List.mem_cons_of_mem|apply List.mem_append_right));exact rfl;exact rfl)|(apply zaq hT;exact rfl;exact rfl;(repeat(first|exact List.mem_cons_self|apply List.mem_cons_of_mem|apply List.mem_append_right));exact rfl))
      |(apply zau;(iterate 5 exact rfl);intro _)|(apply zac hT;(iterate 5 exact rfl);intro _)
      |(apply zaf;(iterate 2 exact rfl))|(apply zag;(iterate 2 exact rfl))
      |(apply zak;exact rfl;all_goals intro hb;all_goals(fail_if_success (change true=true at hb));all_goals(fail_if_success (change false=false at hb));all_goals(try dsimp only at hb);all_goals(try simp only[hb]);all_goals(first|replace hb:=of_decide_eq_true hb|replace hb:=of_decide_eq_false hb|replace hb:=zao hb|replace hb:=zap hb|replace hb:=eq_of_beq hb|replace hb:=ne_of_beq_false hb|skip);all_goals(try(exfalso;omega)))
      |(apply zan;exact rfl;all_goals intro hb;all_goals(try dsimp only at hb);all_goals(try simp only[hb]);all_goals(first|replace hb:=of_decide_eq_true hb|replace hb:=of_decide_eq_false hb|replace hb:=zao hb|replace hb:=zap hb|replace hb:=eq_of_beq hb|replace hb:=ne_of_beq_false hb|skip);all_goals(try(exfalso;omega))))
     all_goals first
      |(exfalso;omega)
      |(apply ret1;exact rfl;exact⟨by rw[hbad],dX⟩)
      |skip
    ·rw[hat]at hTm htr
     dsimp only[atV]at hTm htr
     have hjl:=ziD hat
     repeat' (first
      |(apply zb0 hT;(iterate 5 exact rfl))
      |apply zaz|apply zaa|apply zay|apply zal|apply zam|apply zae|apply zaw
      |(apply zai hT;(iterate 4 exact rfl))|(apply zaj;(iterate 3 exact rfl))|(apply zad;(iterate 2 exact rfl))
      |(apply zax hT;(iterate 4 exact rfl);(iterate 2 (first|omega|(dsimp only;omega))))
      |(apply zar [] [] hmix;decide+kernel)
      |(apply zaU hT;(iterate 8 exact rfl);(iterate 2 omega);exact hAr')
      |(apply zab;(iterate 5 exact rfl);first|exact zaY hT rfl rfl (hrr.mono (by(intro c hc;(repeat(first|exact hc|apply List.mem_cons_of_mem|apply List.mem_append_right))))) MsgR.enc_len rfl hm2 rfl|(apply zaq hT;exact rfl;exact rfl;(repeat(first|exact List.mem_cons_self|apply List.mem_cons_of_mem|apply List.mem_append_right));exact rfl))
      |(apply zac hT;(iterate 5 exact rfl);first|((fail_if_success (have q:=g9));intro g9)|intro _)
      |(apply zaP hT;(iterate 6 exact rfl);exact sX;(iterate 3 exact rfl);exact Nat.le_of_ble_eq_true rfl)
      |(apply zaC (hs:=(hTm _ (by(intro c hc;(repeat(first|exact hc|apply List.mem_cons_of_mem|apply List.mem_append_right))))));(iterate 7 exact rfl))
      |(apply zab;(iterate 5 exact rfl);first|(apply zas hT;exact rfl;exact rfl;(repeat(first|exact List.mem_cons_self|apply List.mem_cons_of_mem|apply List.mem_append_right));exact rfl;exact rfl)|(apply zaq hT;exact rfl;exact rfl;(repeat(first|exact List.mem_cons_self|apply List.mem_cons_of_mem|apply List.mem_append_right));exact rfl))
      |(apply zau;(iterate 5 exact rfl);intro _)|(apply zac hT;(iterate 5 exact rfl);intro _)
      |(apply zaf;(iterate 2 exact rfl))|(apply zag;(iterate 2 exact rfl))
      |(apply zak;exact rfl;all_goals intro hb;all_goals(fail_if_success (change true=true at hb));all_goals(fail_if_success (change false=false at hb));all_goals(try dsimp only at hb);all_goals(try simp only[hb]);all_goals(first|replace hb:=of_decide_eq_true hb|replace hb:=of_decide_eq_false hb|replace hb:=zao hb|replace hb:=zap hb|replace hb:=eq_of_beq hb|replace hb:=ne_of_beq_false hb|skip);all_goals(try(exfalso;omega)))
      |(apply zan;exact rfl;all_goals intro hb;all_goals(try dsimp only at hb);all_goals(try simp only[hb]);all_goals(first|replace hb:=of_decide_eq_true hb|replace hb:=of_decide_eq_false hb|replace hb:=zao hb|replace hb:=zap hb|replace hb:=eq_of_beq hb|replace hb:=ne_of_beq_false hb|skip);all_goals(try(exfalso;omega))))
     all_goals first
      |(exfalso;omega)
      |exact zaM (q+1,j+1) (by dsimp only;omega) ⟨by dsimp only;omega,by dsimp only;omega,htr⟩ ⟨rfl,rfl,rfl,rfl,rfl,rfl,rfl,rfl,rfl,trivial⟩ dX
      |skip
   ·rw[if_pos hkd]at htr
    repeat' (first
     |apply zaz|apply zaa|apply zay|apply zal|apply zam|apply zae|apply zaw
     |(apply zai hT;(iterate 4 exact rfl))|(apply zaj;(iterate 3 exact rfl))|(apply zad;(iterate 2 exact rfl))
     |(apply zax hT;(iterate 4 exact rfl);(iterate 2 (first|omega|(dsimp only;omega))))
     |(apply zar [] [] hmix;decide+kernel)
     |(apply zaU hT;(iterate 8 exact rfl);(iterate 2 omega);exact hAr')
     |(apply zab;(iterate 5 exact rfl);first|exact zaY hT rfl rfl (hrr.mono (by(intro c hc;(repeat(first|exact hc|apply List.mem_cons_of_mem|apply List.mem_append_right))))) MsgR.enc_len rfl hm2 rfl|(apply zaq hT;exact rfl;exact rfl;(repeat(first|exact List.mem_cons_self|apply List.mem_cons_of_mem|apply List.mem_append_right));exact rfl))
     |(apply zac hT;(iterate 5 exact rfl);first|((fail_if_success (have q:=g9));intro g9)|intro _)
     |(apply zaP hT;(iterate 6 exact rfl);exact sX;(iterate 3 exact rfl);exact Nat.le_of_ble_eq_true rfl)
     |(apply zab;(iterate 5 exact rfl);first|(apply zas hT;exact rfl;exact rfl;(repeat(first|exact List.mem_cons_self|apply List.mem_cons_of_mem|apply List.mem_append_right));exact rfl;exact rfl)|(apply zaq hT;exact rfl;exact rfl;(repeat(first|exact List.mem_cons_self|apply List.mem_cons_of_mem|apply List.mem_append_right));exact rfl))
     |(apply zau;(iterate 5 exact rfl);intro _)|(apply zac hT;(iterate 5 exact rfl);intro _)
     |(apply zaf;(iterate 2 exact rfl))|(apply zag;(iterate 2 exact rfl))
     |(apply zak;exact rfl;all_goals intro hb;all_goals(fail_if_success (change true=true at hb));all_goals(fail_if_success (change false=false at hb));all_goals(try dsimp only at hb);all_goals(try simp only[hb]);all_goals(first|replace hb:=of_decide_eq_true hb|replace hb:=of_decide_eq_false hb|replace hb:=zao hb|replace hb:=zap hb|replace hb:=eq_of_beq hb|replace hb:=ne_of_beq_false hb|skip);all_goals(try(exfalso;omega)))
     |(apply zan;exact rfl;all_goals intro hb;all_goals(try dsimp only at hb);all_goals(try simp only[hb]);all_goals(first|replace hb:=of_decide_eq_true hb|replace hb:=of_decide_eq_false hb|replace hb:=zao hb|replace hb:=zap hb|replace hb:=eq_of_beq hb|replace hb:=ne_of_beq_false hb|skip);all_goals(try(exfalso;omega))))
    all_goals first
     |(exfalso;omega)
     |exact zaM (q+1,i) (by dsimp only;omega) ⟨by dsimp only;omega,by dsimp only;omega,htr⟩ ⟨rfl,rfl,rfl,rfl,rfl,rfl,rfl,rfl,rfl,trivial⟩ dX
     |skip
  ·obtain rfl:q=r.l.length:=by omega
   have hd2:decide ((r.l.length:Int)<(r.l.length:Int))=false:=by simp
   rw[List.drop_length]at htr
   repeat' (first
    |apply zaz|apply zaa|apply zay|apply zal|apply zam|apply zae|apply zaw
    |(apply zai hT;(iterate 4 exact rfl))|(apply zaj;(iterate 3 exact rfl))|(apply zad;(iterate 2 exact rfl))
    |(apply zax hT;(iterate 4 exact rfl);(iterate 2 (first|omega|(dsimp only;omega))))
    |(apply zar [] [] hmix;decide+kernel)
    |(apply zab;(iterate 5 exact rfl);first|(apply zas hT;exact rfl;exact rfl;(repeat(first|exact List.mem_cons_self|apply List.mem_cons_of_mem|apply List.mem_append_right));exact rfl;exact rfl)|(apply zaq hT;exact rfl;exact rfl;(repeat(first|exact List.mem_cons_self|apply List.mem_cons_of_mem|apply List.mem_append_right));exact rfl))
    |(apply zau;(iterate 5 exact rfl);intro _)|(apply zac hT;(iterate 5 exact rfl);intro _)
    |(apply zaf;(iterate 2 exact rfl))|(apply zag;(iterate 2 exact rfl))
    |(apply zak;exact rfl;all_goals intro hb;all_goals(fail_if_success (change true=true at hb));all_goals(fail_if_success (change false=false at hb));all_goals(try dsimp only at hb);all_goals(try simp only[hb]);all_goals(first|replace hb:=of_decide_eq_true hb|replace hb:=of_decide_eq_false hb|replace hb:=zao hb|replace hb:=zap hb|replace hb:=eq_of_beq hb|replace hb:=ne_of_beq_false hb|skip);all_goals(try(exfalso;omega)))
    |(apply zan;exact rfl;all_goals intro hb;all_goals(try dsimp only at hb);all_goals(try simp only[hb]);all_goals(first|replace hb:=of_decide_eq_true hb|replace hb:=of_decide_eq_false hb|replace hb:=zao hb|replace hb:=zap hb|replace hb:=eq_of_beq hb|replace hb:=ne_of_beq_false hb|skip);all_goals(try(exfalso;omega))))
   all_goals first
    |(exfalso;omega)
    |exact zaM (k+1) (by(try dsimp only);omega) ⟨by(try dsimp only);omega,fun j r' hj hr'=>by
      by_cases e:j=k
      ·rw[e,hx]at hr';cases hr';rw[e];exact htr
      ·exact hgd j r' (by(try dsimp only at hj);omega) hr'⟩ ⟨rfl,rfl,rfl,rfl,trivial⟩ dX
    |skip
 ·obtain rfl:k=rs.length:=by omega
  have hd1:decide ((rs.length:Int)<(rs.length:Int))=false:=by simp
  have hgood:zcL l (rs.map MRow.l)=true:=zcC (fun i r hir=>by
   rw[List.getElem?_map]at hir
   obtain⟨x,hx,rfl⟩:=Option.map_eq_some_iff.1 hir
   exact hgd i x (gsi.1 hx).1 hx)
  repeat' (first
   |apply zaz|apply zaa|apply zay|apply zal|apply zam|apply zae|apply zaw
   |(apply zai hT;(iterate 4 exact rfl))|(apply zaj;(iterate 3 exact rfl))|(apply zad;(iterate 2 exact rfl))
   |(apply zax hT;(iterate 4 exact rfl);(iterate 2 (first|omega|(dsimp only;omega))))
   |(apply zar [] [] hmix;decide+kernel)
   |(apply zab;(iterate 5 exact rfl);first|(apply zas hT;exact rfl;exact rfl;(repeat(first|exact List.mem_cons_self|apply List.mem_cons_of_mem|apply List.mem_append_right));exact rfl;exact rfl)|(apply zaq hT;exact rfl;exact rfl;(repeat(first|exact List.mem_cons_self|apply List.mem_cons_of_mem|apply List.mem_append_right));exact rfl))
   |(apply zau;(iterate 5 exact rfl);intro _)|(apply zac hT;(iterate 5 exact rfl);intro _)
   |(apply zaf;(iterate 2 exact rfl))|(apply zag;(iterate 2 exact rfl))
   |(apply zak;exact rfl;all_goals intro hb;all_goals(fail_if_success (change true=true at hb));all_goals(fail_if_success (change false=false at hb));all_goals(try dsimp only at hb);all_goals(try simp only[hb]);all_goals(first|replace hb:=of_decide_eq_true hb|replace hb:=of_decide_eq_false hb|replace hb:=zao hb|replace hb:=zap hb|replace hb:=eq_of_beq hb|replace hb:=ne_of_beq_false hb|skip);all_goals(try(exfalso;omega)))
   |(apply zan;exact rfl;all_goals intro hb;all_goals(try dsimp only at hb);all_goals(try simp only[hb]);all_goals(first|replace hb:=of_decide_eq_true hb|replace hb:=of_decide_eq_false hb|replace hb:=zao hb|replace hb:=zap hb|replace hb:=eq_of_beq hb|replace hb:=ne_of_beq_false hb|skip);all_goals(try(exfalso;omega))))
  all_goals first
   |(exfalso;omega)
   |(apply ret1;exact rfl;exact⟨by rw[hgood],dX⟩)
   |skip
end Go.Proofs.YteocfhdocpeokaaGreat
set_option linter.unusedSimpArgs false
set_option linter.unusedVariables false
namespace Go.Proofs.YteocfhdocpeokaaGreat
open Go Go.Sl
def ziE (t:zaB):MsgR:=(outM t.buyer 28 [t.id,1,t.bond,t.price,t.qty,t.seller]).msg
def zea (t:zaB):MsgR:=(outM t.seller 28 [t.id,2,t.bond,t.price,t.qty,t.buyer]).msg
def oneT (t:zaB)(i:Nat):Prop:=(0≤t.buyer∧t.buyer≤3)∧(0≤t.seller∧t.seller≤3)∧t.buyer≠t.seller∧t.id=(i:Int)+1
def okT (l:List zaB):Prop:=∀(i:Nat) t,l[i]? =some t→oneT t i
def zdD (l:List zaB)(rs:List MRow):Prop:=rs.length=4∧∀(p:Nat) r,rs[p]? =some r→r.l=rowT l p
theorem okT.num {l:List zaB}(h:okT l):numT l:=fun i t ht=>(h i t ht).2.2.2
theorem zj1 {l:List zaB}{k:Nat}{t:zaB}(h:okT (l.take k))(ht:l[k]? =some t)(h1:oneT t k):okT (l.take (k+1)):=fun i u hu=>by
 have hk:=(gsi.1 ht).1
 rw[List.getElem?_take]at hu
 split at hu
 ·rename_i hi
  by_cases e:i=k
  ·subst e;rw[ht]at hu;cases hu;exact h1
  ·exact h i u (by rw[List.getElem?_take,if_pos (by omega)];exact hu)
 ·cases hu
theorem ziF (l:List zaB)(t:zaB)(p:Int):rowT (l++[t]) p=rowT l p++zdv p t:=by
 unfold rowT
 rw[List.flatMap_append,List.flatMap_singleton]
theorem zfe (l:List zaB)(p:Int):(rowT l p).length≤l.length:=by
 unfold rowT
 induction l with
 |nil=>exact Nat.le_refl _
 |cons t l ih=>
  rw[List.flatMap_cons,lla,List.length_cons]
  rcases zfD p t with h|⟨m,h⟩<;>rw[h]
  ·rw[List.length_nil];omega
  ·rw[List.length_singleton];omega
theorem ziG {l:List zaB}{k:Nat}{t:zaB}{rs:List MRow}{a b:MRow}{A B:Option Addr}{c d:Nat}(h:zdD (l.take k) rs)(ht:l[k]? =some t)(h1:oneT t k)(ha:rs[t.buyer.toNat]? =some a)(hb:rs[t.seller.toNat]? =some b):
 zdD (l.take (k+1)) ((rs.set t.buyer.toNat ⟨A,c,a.l++[ziE t]⟩).set t.seller.toNat ⟨B,d,b.l++[zea t]⟩):=by
 obtain⟨⟨b0,b3⟩,⟨s0,s3⟩,hne,hid⟩:=h1
 have hst:l.take (k+1)=l.take k++[t]:=by rw[List.take_add_one,ht];rfl
 refine⟨by simp[h.1],fun p r hr=> ?_⟩
 rw[hst,ziF]
 rw[List.getElem?_set]at hr
 split at hr
 ·rename_i e
  split at hr
  ·injection hr with hr
   subst hr
   show b.l++[zea t]=_
   have hp:(p:Int)=t.seller:=by omega
   rw[h.2 _ _ hb,e]
   unfold zdv
   rw[if_neg (by rw[hp];exact hne),if_pos hp.symm];rfl
  ·cases hr
 ·rename_i e
  rw[List.getElem?_set]at hr
  split at hr
  ·rename_i e2
   split at hr
   ·injection hr with hr
    subst hr
    show a.l++[ziE t]=_
    have hp:(p:Int)=t.buyer:=by omega
    rw[h.2 _ _ ha,e2]
    unfold zdv
    rw[if_pos hp.symm];rfl
   ·cases hr
  ·rename_i e2
   rw[h.2 _ _ hr]
   have hp1:t.buyer≠(p:Int):=by omega
   have hp2:t.seller≠(p:Int):=by omega
   unfold zdv
   rw[if_neg hp1,if_neg hp2,List.append_nil]
theorem ziH {l:List zaB}{rs:List MRow}(h:okT l)(hr:zdD l rs):zcL l (rs.map MRow.l)=true:=zcC (fun i r hi=>by
 rw[List.getElem?_map]at hi
 obtain⟨x,hx,rfl⟩:=Option.map_eq_some_iff.1 hi
 rw[hr.2 i x hx]
 exact zd8 h.num i)
theorem ziI {l:List zaB}{rs:List MRow}(h:okT l)(hr:zdD l rs)(n:Nat):zcL l ((rs.take n).map MRow.l)=true:=zcC (fun i r hi=>by
 rw[List.getElem?_map]at hi
 obtain⟨x,hx,rfl⟩:=Option.map_eq_some_iff.1 hi
 rw[List.getElem?_take]at hx
 split at hx
 ·rw[hr.2 i x hx]
  exact zd8 h.num i
 ·cases hx)
theorem zj2 {l:List zaB}{rs:List MRow}{p:Nat}{x:MRow}(hp:p<rs.length)(h:zaK l p x.l 0=false):zcL l ((rs.set p x).map MRow.l)=false:=
 zdb (i:=p) (r:=x.l) (by rw[List.getElem?_map,List.getElem?_set_self hp];rfl) h
theorem zgw {l:List zaB}{p:Int}{m:MsgR}(h:m∈rowT l p):∃(i:Nat) (t:zaB),l[i]? =some t∧m∈zdv p t:=by
 obtain⟨t,ht,hm⟩:=List.mem_flatMap.1 h
 obtain⟨i,hi,e⟩:=List.mem_iff_getElem.1 ht
 exact⟨i,t,by rw[gge hi,e],hm⟩
theorem zg8 {l:List zaB}{j:Nat}{t:zaB}(ht:l[j]? =some t):∃ms m,rowT l t.buyer=ms++[m]:=by
 have hm:ziE t∈rowT l t.buyer:=List.mem_flatMap.2 ⟨t,mog ht,by unfold zdv;rw[if_pos rfl];exact lms.2 rfl⟩
 generalize rowT l t.buyer=r at*
 rcases r.eq_nil_or_concat with rfl|⟨ms,m,rfl⟩
 ·cases hm
 ·exact⟨ms,m,List.concat_eq_append⟩
theorem zfH {t:zaB}{who:Int}{m:MsgR}(h:zbQ t who m=true):t.qty=m.f4:=by
 simp only[zbQ,zbz,List.any_cons,List.any_nil,Bool.or_false,Bool.or_eq_true,decide_eq_true_eq]at h
 rcases h with h|h<;>(injection h with _ h;rw[←h];rfl)
theorem zfI {l:List zaB}(hn:numT l){i:Nat}{t u:zaB}(ht:l[i]? =some t)(hu:u∈l)(e:u.id=t.id):u=t:=by
 obtain⟨j,hj,he⟩:=List.mem_iff_getElem.1 hu
 have hu2:l[j]? =some u:=by rw[gge hj,he]
 have e1:=hn j u hu2
 have e2:=hn i t ht
 obtain rfl:i=j:=by omega
 rw[hu2]at ht
 injection ht
/-- a message whose quantity is another -/
theorem zlc {l:List zaB}(h:okT l){p:Int}{ms:List MsgR}{m:MsgR}(hr:rowT l p=ms++[m]){v:Int}(hv:v≠m.f4):zaK l p (ms++[{m with f4:=v}]) 0=false:=by
 obtain⟨i,t,ht,hm⟩:=zgw (l:=l) (p:=p) (m:=m) (by rw[hr];simp)
 obtain⟨h1,h2⟩:=zcB hm
 refine zcg (m:={m with f4:=v}) h2 (fun u hu=> ?_) ms 0
 cases hto:zbQ u p {m with f4:=v}
 ·rfl
 ·have e1:=zcf hto
  have e2:=zcf h1
  have e3:=zfI h.num ht hu (by rw[e1,e2])
  subst e3
  have e4:=zfH hto
  have e5:=zfH h1
  exact absurd (by rw[←e5,e4]) hv
theorem ziJ {l:List zaB}(h:okT l){p:Int}{ms:List MsgR}{m:MsgR}(hr:rowT l p=ms++[m]):zaK l p ((ms++[m])++[m]) 0=false:=by
 obtain⟨i,t,ht,hm⟩:=zgw (l:=l) (p:=p) (m:=m) (by rw[hr];simp)
 rw[List.append_assoc]
 exact zch h.num (zcB hm).2 ms 0
theorem ziK {l:List zaB}(h:okT l){j:Nat}{t:zaB}(ht:l[j]? =some t)(ms:List MsgR):zaK l t.buyer (ms++[zea t]) 0=false:=by
 refine zcg (m:=zea t) rfl (fun u hu=> ?_) ms 0
 cases hto:zbQ u t.buyer (zea t)
 ·rfl
 ·have e3:=zfI h.num ht hu (zcf hto)
  subst e3
  have hne:=(h j u ht).2.2.1
  simp only[zbQ,zbz,List.any_cons,List.any_nil,Bool.or_false,Bool.or_eq_true,decide_eq_true_eq]at hto
  rcases hto with hto|hto
  ·injection hto with _ h2
   have h3:=congrArg MsgR.f1 h2
   exact absurd (show(1:Int)=2 from h3) (by decide)
  ·injection hto with h2
   exact absurd h2.symm hne
theorem zeb {p:Int}{m:MsgR}(hk:m.kind=28):∀(ms ns:List MsgR) (i:Nat),zaK [] p (ms++m::ns) i=false
 |[],ns,i=>by
  show zaK [] p (m::ns) i=false
  unfold zaK
  rw[if_neg (by simp[hk])]
  simp[zbk]
 |a::ms,ns,i=>by
  show zaK [] p (a::(ms++m::ns)) i=false
  unfold zaK
  split
  ·exact zeb hk ms ns i
  ·simp[zbk]
theorem ziL {l:List zaB}{rs:List MRow}(hok:okT l)(hr:zdD l rs){j:Nat}{t:zaB}(ht:l[j]? =some t):zcL [] (rs.map MRow.l)=false:=by
 obtain⟨⟨b0,b3⟩,_⟩:=hok j t ht
 obtain⟨ms,m,e⟩:=zg8 ht
 obtain⟨i,u,hu,hm⟩:=zgw (l:=l) (p:=t.buyer) (m:=m) (by rw[e];simp)
 have hl:=hr.1
 have hx:rs[t.buyer.toNat]? =some (rs[t.buyer.toNat]'(by omega)):=gge (by omega)
 refine zdb (i:=t.buyer.toNat) (r:=rowT l t.buyer) ?_ ?_
 ·rw[List.getElem?_map,hx]
  simp only[Option.map_some,Option.some.injEq]
  rw[hr.2 _ _ hx]
  congr 1;omega
 ·rw[e]
  exact zeb (zcB hm).2 ms [] 0
theorem zld (v:Int):bitI .xor .i64 v 1≠v:=fun h=>by
 have h1:BitVec.ofInt 64 (bitI .xor .i64 v 1)=BitVec.ofInt 64 v ^^^ BitVec.ofInt 64 1:=by
  show BitVec.ofInt 64 (IntKind.i64.wrap ((BitVec.ofInt 64 v ^^^ BitVec.ofInt 64 1).toNat:Int))=_
  generalize BitVec.ofInt 64 v ^^^ BitVec.ofInt 64 1=z
  have hz:=z.isLt
  have hw:∃q:Int,IntKind.i64.wrap (z.toNat:Int)=(z.toNat:Int)+q*18446744073709551616:=by
   rw[IntKind.wrap_i64]
   exact⟨((((z.toNat:Int)+9223372036854775808)%18446744073709551616 - 9223372036854775808) - z.toNat) / 18446744073709551616,by omega⟩
  obtain⟨q,hq⟩:=hw
  rw[hq]
  apply BitVec.eq_of_toNat_eq
  rw[BitVec.toNat_ofInt]
  simp only[Nat.reducePow]
  omega
 rw[h]at h1
 have h2:BitVec.ofInt 64 v ^^^ (BitVec.ofInt 64 v ^^^ BitVec.ofInt 64 1)=BitVec.ofInt 64 v ^^^ BitVec.ofInt 64 v:=by rw[←h1]
 rw[←BitVec.xor_assoc,BitVec.xor_self,BitVec.zero_xor]at h2
 exact absurd h2 (by decide)
theorem ziM {t:zaB}(h:zaB.ok t):∀n∈[t.id,t.bond,t.buyer,t.seller,t.price,t.qty,t.ask,t.tick],I64w n:=by
 unfold zaB.ok at h
 simpa using h
/-- what is picked -/
theorem zle {l:List zaB}{rs:List MRow}(hok:okT l)(hr:zdD l rs)(h0:0<l.length)(n:Nat):∃(j:Nat) (t:zaB) (a:MRow) (ms:List MsgR) (m:MsgR),
 (n:Int)%(l.length:Int)=(j:Int)∧j<l.length∧l[(j:Int).toNat]? =some t∧((0≤t.buyer∧t.buyer≤3)∧(0≤t.seller∧t.seller≤3))∧rs[t.buyer.toNat]? =some a∧rowT l t.buyer=ms++[m]∧a.l=ms++[m]:=by
 have h1:n%l.length<l.length:=Nat.mod_lt _ h0
 have ht:l[n%l.length]? =some (l[n%l.length]):=gge h1
 generalize l[n%l.length]=t at ht
 obtain⟨⟨b0,b3⟩,s1,_⟩:=hok _ t ht
 have hl:=hr.1
 have hx:rs[t.buyer.toNat]? =some (rs[t.buyer.toNat]'(by omega)):=gge (by omega)
 generalize rs[t.buyer.toNat]'(by omega)=a at hx
 obtain⟨ms,m,e⟩:=zg8 ht
 refine⟨n%l.length,t,a,ms,m,(Int.natCast_emod n l.length).symm,h1,ht,⟨⟨b0,b3⟩,s1⟩,hx,e,?_⟩
 rw[hr.2 _ _ hx,←e]
 congr 1;omega
end Go.Proofs.YteocfhdocpeokaaGreat
set_option linter.unusedSimpArgs false
set_option linter.unusedVariables false
namespace Go.Sl
open Go Go.RowKit
theorem fX {G:Prop}(h:G:=by first|(intro r hr;(repeat(first|exact List.mem_map_of_mem hr|apply List.mem_cons_of_mem|apply List.mem_append_right)))<;>fail):G:=h
theorem zaD.first {P:Program}{W:World}{h:List zah}{A:Option Addr}{n m k:Nat}{cs:List Value}(hr:zaD W h A n k cs)(hm:m≤n):zaD W h A m k (cs.take (m*k)):=
 ⟨by rw[llt,hr.1];exact Nat.min_eq_left (Nat.mul_le_mul_right k hm),fun v hv=>hr.2.1 v (List.mem_of_mem_take hv),fun w hw j v hj=>hr.2.2 w hw j v (by
   rw[List.getElem?_take]at hj
   split at hj
   ·exact hj
   ·cases hj)⟩
theorem blkN {id:Nat}{Q:Exit→Env→List zah→Prop}{env:Env}{h:List zah}(hq:Q .normal env h):zif id Q .normal env h:=hq
end Go.Sl
set_option linter.unusedSimpArgs false
set_option linter.unusedVariables false
namespace Go.Proofs.YteocfhdocpeokaaGreat
open Go Go.Sl
attribute [local irreducible] AW ES EP Ld RetQ
set_option maxRecDepth 100000
theorem zhw (W:World)(t:zaB)(who:Int)(m:MsgR):zaF Tryz.prog W 42 [.agg t.enc.toArray,.int .i64 who,.agg m.enc.toArray] [] (.bool (zbQ t who m)):=by
 refine zaF.ofD (fun h' hs=> ?_)
 obtain⟨x,y,hc⟩:∃x y,zbz t=[⟨t.buyer,x⟩,⟨t.seller,y⟩]:=⟨_,_,rfl⟩
 have hv:zbQ t who m=((decide (t.buyer=who)&&decide (x=m))||(decide (t.seller=who)&&decide (y=m))):=by
  unfold zbQ;rw[hc];simp only[List.any_cons,List.any_nil,Bool.or_false,OutR.mk.injEq,Bool.decide_and]
 have hO:=fun k=>zfd W k t
 have he1:=zlU x m
 have he2:=zlU y m
 have hx0:(zbz t)[(0:Int).toNat]? =some ⟨t.buyer,x⟩:=by rw[hc];rfl
 have hx1:(zbz t)[(1:Int).toNat]? =some ⟨t.seller,y⟩:=by rw[hc];rfl
 have hol:(zbz t).length=2:=by rw[hc];rfl
 generalize zbz t=os at*
 generalize decide (x=m)=p at*
 generalize decide (y=m)=q at*
 rw[hv]
 clear hv hc
 have hR:=fun k g (hm:zah.own (some ⟨g,0,none⟩) 2 2 44 8 (os.flatMap OutR.enc)∈k)=>(zaD.enc OutR.enc_len OutR.enc_one hm hol:zaD W k (some ⟨g,0,none⟩) 2 8 (os.flatMap OutR.enc))
 by_cases h1:t.buyer=who<;>by_cases h3:t.seller=who<;>cases p<;>cases q
 all_goals
  refine zaA Tryz.func42 rfl rfl Tryz.results42 Tryz.ntmps42 rfl rfl ?_
  repeat' (first
   |(apply zb0 hT;(iterate 5 exact rfl);exact h3)
   |(apply zb0 hT;(iterate 5 exact rfl);exact h1)
   |apply zaz|apply zaa|apply zay|apply zal|apply zam|apply zae|apply zaw
   |(apply zai hT;(iterate 4 exact rfl))|(apply zaj;(iterate 3 exact rfl))|(apply zad;(iterate 2 exact rfl))
   |(apply zax hT;(iterate 4 exact rfl);(iterate 2 (first|omega|(dsimp only;omega))))
   |(apply zar [] [] hmix;decide+kernel)
   |(apply zau;(iterate 5 exact rfl);intro _)
   |(apply zaV (hs:=(hO _));(iterate 7 exact rfl);rintro _ _ ⟨g,rfl,rfl⟩)
   |(apply zaU hT;(iterate 8 exact rfl);(iterate 2 omega);exact rfl)
   |(apply zab;(iterate 5 exact rfl);first|exact zc6 hT rfl rfl (hR _ _ (by(repeat(first|exact List.mem_cons_self|apply List.mem_cons_of_mem|apply List.mem_append_right)))) OutR.enc_len (zbq _ _ _) hx0 (f:=0) (by decide) rfl|exact zc6 hT rfl rfl (hR _ _ (by(repeat(first|exact List.mem_cons_self|apply List.mem_cons_of_mem|apply List.mem_append_right)))) OutR.enc_len (zbq _ _ _) hx1 (f:=0) (by decide) rfl|exact zfx hT rfl rfl (hR _ _ (by(repeat(first|exact List.mem_cons_self|apply List.mem_cons_of_mem|apply List.mem_append_right)))) OutR.enc_len (zbq _ _ _) hx0 (f:=1) (vs:=x.enc) (Nat.le_of_ble_eq_true rfl) rfl rfl|exact zfx hT rfl rfl (hR _ _ (by(repeat(first|exact List.mem_cons_self|apply List.mem_cons_of_mem|apply List.mem_append_right)))) OutR.enc_len (zbq _ _ _) hx1 (f:=1) (vs:=y.enc) (Nat.le_of_ble_eq_true rfl) rfl rfl|(apply zaq hT;exact rfl;exact rfl;(repeat(first|exact List.mem_cons_self|apply List.mem_cons_of_mem|apply List.mem_append_right));exact rfl))
   |(apply ziy hT;(iterate 5 exact rfl);(first|exact he1|exact he2);decide;exact ziA;exact zkP.2)
   |(apply zab;(iterate 5 exact rfl);first|(apply zas hT;exact rfl;exact rfl;(repeat(first|exact List.mem_cons_self|apply List.mem_cons_of_mem|apply List.mem_append_right));exact rfl;exact rfl)|(apply zaq hT;exact rfl;exact rfl;(repeat(first|exact List.mem_cons_self|apply List.mem_cons_of_mem|apply List.mem_append_right));exact rfl))
   |(apply zau;(iterate 5 exact rfl);intro _)|(apply zac hT;(iterate 5 exact rfl);intro _)
   |(apply zaf;(iterate 2 exact rfl))|(apply zag;(iterate 2 exact rfl))
   |(apply zak;exact rfl;all_goals intro hb;all_goals(fail_if_success (change true=true at hb));all_goals(fail_if_success (change false=false at hb));all_goals(try dsimp only at hb);all_goals(try simp only[hb]);all_goals(first|replace hb:=of_decide_eq_true hb|replace hb:=of_decide_eq_false hb|replace hb:=zao hb|replace hb:=zap hb|replace hb:=eq_of_beq hb|replace hb:=ne_of_beq_false hb|skip);all_goals(try(exfalso;omega)))
   |(apply zan;exact rfl;all_goals intro hb;all_goals(try dsimp only at hb);all_goals(try simp only[hb]);all_goals(first|replace hb:=of_decide_eq_true hb|replace hb:=of_decide_eq_false hb|replace hb:=zao hb|replace hb:=zap hb|replace hb:=eq_of_beq hb|replace hb:=ne_of_beq_false hb|skip);all_goals(try(exfalso;omega))))
  all_goals first
   |(exfalso;omega)
   |(apply ret1;exact rfl;exact⟨by simp[h1,h3],dX⟩)
   |skip
theorem zhx (W:World)(h:List zah)(A:Option Addr)(c:Nat)(l:List zaB)(hr:zaD W h A l.length 8 (l.flatMap zaB.enc))(hb:l.length≤1000000)(AT:Option Addr)(cT:Nat)(rs:List MRow)(hrT:zaD W h AT rs.length 1 (rs.map MRow.hd))(hrs:∀r∈rs,zaD W h r.A r.l.length 7 (r.l.flatMap MsgR.enc))(hbT:rs.length≤1000000)(hbr:∀r∈rs,r.l.length≤1000000):
 zaF Tryz.prog W 15 [.slice A l.length c,.slice AT rs.length cT] h (.bool (zcL l (rs.map MRow.l))):=by
 refine zaF.ofD (fun h' hs=> ?_)
 have hrd:=hr.mono hs
 have hrT':=hrT.mono hs
 refine zaA Tryz.func15 rfl rfl Tryz.results15 Tryz.ntmps15 rfl rfl ?_
 refine zaO hrT' rfl (fun hAT=> ?_)
 refine zaO hrd rfl (fun hA=> ?_)
 repeat' (first
  |apply zaz|apply zaa|apply zay|apply zal|apply zam|apply zae|apply zaw
  |(apply zai hT;(iterate 4 exact rfl))|(apply zaj;(iterate 3 exact rfl))|(apply zad;(iterate 2 exact rfl))
  |(apply zax hT;(iterate 4 exact rfl);(iterate 2 (first|omega|(dsimp only;omega))))
  |(apply zar [] [] hmix;decide+kernel)
  |(apply zab;(iterate 5 exact rfl);first|(apply zas hT;exact rfl;exact rfl;(repeat(first|exact List.mem_cons_self|apply List.mem_cons_of_mem|apply List.mem_append_right));exact rfl;exact rfl)|(apply zaq hT;exact rfl;exact rfl;(repeat(first|exact List.mem_cons_self|apply List.mem_cons_of_mem|apply List.mem_append_right));exact rfl))
  |(apply zau;(iterate 5 exact rfl);intro _)|(apply zac hT;(iterate 5 exact rfl);intro _)
  |(apply zaf;(iterate 2 exact rfl))|(apply zag;(iterate 2 exact rfl))
  |(apply zak;exact rfl;all_goals intro hb;all_goals(fail_if_success (change true=true at hb));all_goals(fail_if_success (change false=false at hb));all_goals(try dsimp only at hb);all_goals(try simp only[hb]);all_goals(first|replace hb:=of_decide_eq_true hb|replace hb:=of_decide_eq_false hb|replace hb:=zao hb|replace hb:=zap hb|replace hb:=eq_of_beq hb|replace hb:=ne_of_beq_false hb|skip);all_goals(try(exfalso;omega)))
  |(apply zan;exact rfl;all_goals intro hb;all_goals(try dsimp only at hb);all_goals(try simp only[hb]);all_goals(first|replace hb:=of_decide_eq_true hb|replace hb:=of_decide_eq_false hb|replace hb:=zao hb|replace hb:=zap hb|replace hb:=eq_of_beq hb|replace hb:=ne_of_beq_false hb|skip);all_goals(try(exfalso;omega))))
 refine zaX (α:=Nat) (E:=fun k=>[(0,.slice A l.length c),(1,.slice AT rs.length cT),(5,.int .i64 k)]) (H:=fun _=>h') (μ:=fun k=>rs.length - k)
  (S:=fun k=>k≤rs.length∧∀(j:Nat) r,j<k→rs[j]? =some r→zaK l j r.l 0=true) 0 ⟨Nat.zero_le _,fun j r hj=>absurd hj (Nat.not_lt_zero _)⟩ ⟨rfl,rfl,rfl,trivial⟩ dX ?_
 rintro k ⟨hk,hgd⟩
 by_cases hlt:k<rs.length
 ·obtain⟨r,hx⟩:∃r,rs[k]? =some r:=⟨rs[k]'(by omega),gge (by omega)⟩
  have hx2:rs[(k:Int).toNat]? =some r:=by simpa using hx
  have hrm:=mog hx
  have hrr:=(hrs r hrm).mono hs
  have hbl:=hbr r hrm
  have hAT':=hAT (by omega)
  have hd1:decide ((k:Int)<(rs.length:Int))=true:=by simp;omega
  have hix:=zdR hx2
  refine zaO hrr rfl (fun hAr=> ?_)
  repeat' (first
   |apply zaz|apply zaa|apply zay|apply zal|apply zam|apply zae|apply zaw
   |(apply zai hT;(iterate 4 exact rfl))|(apply zaj;(iterate 3 exact rfl))|(apply zad;(iterate 2 exact rfl))
   |(apply zax hT;(iterate 4 exact rfl);(iterate 2 (first|omega|(dsimp only;omega))))
   |(apply zar [] [] hmix;decide+kernel)
   |(apply zab;(iterate 5 exact rfl);first|(apply zas hT;exact rfl;exact rfl;(repeat(first|exact List.mem_cons_self|apply List.mem_cons_of_mem|apply List.mem_append_right));exact rfl;exact rfl)|(apply zaq hT;exact rfl;exact rfl;(repeat(first|exact List.mem_cons_self|apply List.mem_cons_of_mem|apply List.mem_append_right));exact rfl))
   |(apply zau;(iterate 5 exact rfl);intro _)|(apply zac hT;(iterate 5 exact rfl);intro _)
   |(apply zaf;(iterate 2 exact rfl))|(apply zag;(iterate 2 exact rfl))
   |(apply zak;exact rfl;all_goals intro hb;all_goals(fail_if_success (change true=true at hb));all_goals(fail_if_success (change false=false at hb));all_goals(try dsimp only at hb);all_goals(try simp only[hb]);all_goals(first|replace hb:=of_decide_eq_true hb|replace hb:=of_decide_eq_false hb|replace hb:=zao hb|replace hb:=zap hb|replace hb:=eq_of_beq hb|replace hb:=ne_of_beq_false hb|skip);all_goals(try(exfalso;omega)))
   |(apply zan;exact rfl;all_goals intro hb;all_goals(try dsimp only at hb);all_goals(try simp only[hb]);all_goals(first|replace hb:=of_decide_eq_true hb|replace hb:=of_decide_eq_false hb|replace hb:=zao hb|replace hb:=zap hb|replace hb:=eq_of_beq hb|replace hb:=ne_of_beq_false hb|skip);all_goals(try(exfalso;omega))))
  all_goals try(exfalso;omega)
  refine zaX (α:=Nat×Nat) (E:=fun x=>[(0,.slice A l.length c),(1,.slice AT rs.length cT),(5,.int .i64 k),(6,.int .i64 x.2),(7,.int .i64 x.1)]) (H:=fun _=>h') (μ:=fun x=>r.l.length - x.1)
   (S:=fun x=>x.1≤r.l.length∧x.2≤l.length∧zaK l k r.l 0=zaK l k (r.l.drop x.1) x.2) (0,0) ⟨Nat.zero_le _,Nat.zero_le _,rfl⟩ ⟨rfl,rfl,rfl,rfl,rfl,trivial⟩ dX ?_
  rintro⟨q,i⟩ ⟨hq,hi,htr⟩
  dsimp only at hq hi htr ⊢
  by_cases hlq:q<r.l.length
  ·obtain⟨m,hm⟩:∃m,r.l[q]? =some m:=⟨r.l[q]'(by omega),gge (by omega)⟩
   have hm2:r.l[(q:Int).toNat]? =some m:=by simpa using hm
   have hAr':=hAr (by omega)
   have hd2:decide ((q:Int)<(r.l.length:Int))=true:=by simp;omega
   rw[zdC hm]at htr
   by_cases hkd:m.kind=28
   ·rw[if_neg (by simp[hkd])]at htr
    repeat' (first
     |(apply zb0 hT;(iterate 5 exact rfl))
     |apply zaz|apply zaa|apply zay|apply zal|apply zam|apply zae|apply zaw
     |(apply zai hT;(iterate 4 exact rfl))|(apply zaj;(iterate 3 exact rfl))|(apply zad;(iterate 2 exact rfl))
     |(apply zax hT;(iterate 4 exact rfl);(iterate 2 (first|omega|(dsimp only;omega))))
     |(apply zar [] [] hmix;decide+kernel)
     |(apply zaU hT;(iterate 8 exact rfl);(iterate 2 omega);first|exact hAT'|exact hAr')
     |(apply zab;(iterate 5 exact rfl);first|exact zbd hT rfl rfl hrT' rfl hix|exact zc6 hT rfl rfl hrr MsgR.enc_len (zbq _ _ _) hm2 (f:=0) (by decide) rfl)
     |(apply zab;(iterate 5 exact rfl);first|(apply zas hT;exact rfl;exact rfl;(repeat(first|exact List.mem_cons_self|apply List.mem_cons_of_mem|apply List.mem_append_right));exact rfl;exact rfl)|(apply zaq hT;exact rfl;exact rfl;(repeat(first|exact List.mem_cons_self|apply List.mem_cons_of_mem|apply List.mem_append_right));exact rfl))
     |(apply zau;(iterate 5 exact rfl);intro _)|(apply zac hT;(iterate 5 exact rfl);intro _)
     |(apply zaf;(iterate 2 exact rfl))|(apply zag;(iterate 2 exact rfl))
     |(apply zak;exact rfl;all_goals intro hb;all_goals(fail_if_success (change true=true at hb));all_goals(fail_if_success (change false=false at hb));all_goals(try dsimp only at hb);all_goals(try simp only[hb]);all_goals(first|replace hb:=of_decide_eq_true hb|replace hb:=of_decide_eq_false hb|replace hb:=zao hb|replace hb:=zap hb|replace hb:=eq_of_beq hb|replace hb:=ne_of_beq_false hb|skip);all_goals(try(exfalso;omega)))
     |(apply zan;exact rfl;all_goals intro hb;all_goals(try dsimp only at hb);all_goals(try simp only[hb]);all_goals(first|replace hb:=of_decide_eq_true hb|replace hb:=of_decide_eq_false hb|replace hb:=zao hb|replace hb:=zap hb|replace hb:=eq_of_beq hb|replace hb:=ne_of_beq_false hb|skip);all_goals(try(exfalso;omega))))
    all_goals try(exfalso;omega)
    refine zaX (α:=Nat) (E:=fun a=>[(0,.slice A l.length c),(1,.slice AT rs.length cT),(5,.int .i64 k),(6,.int .i64 a),(7,.int .i64 q)]) (H:=fun _=>h') (μ:=fun a=>l.length - a)
     (S:=fun a=>a≤l.length∧zbk k m (l.drop i) i=zbk k m (l.drop a) a) i ⟨hi,rfl⟩ ⟨rfl,rfl,rfl,rfl,rfl,trivial⟩ dX ?_
    rintro a ⟨ha,hat⟩
    rw[hat]at htr
    by_cases hla:a<l.length
    ·obtain⟨t,ht⟩:∃t,l[a]? =some t:=⟨l[a]'(by omega),gge (by omega)⟩
     have ht2:l[(a:Int).toNat]? =some t:=by simpa using ht
     have hA':=hA (by omega)
     have hTo:=zhw W t k m
     have hd3:decide ((a:Int)<(l.length:Int))=true:=by simp;omega
     rw[zd9 ht]at hat htr
     cases hto:zbQ t k m
     ·rw[hto,if_neg (by decide)]at hat
      rw[hto]at hTo
      repeat' (first
       |apply zaz|apply zaa|apply zay|apply zal|apply zam|apply zae|apply zaw
       |(apply zai hT;(iterate 4 exact rfl))|(apply zaj;(iterate 3 exact rfl))|(apply zad;(iterate 2 exact rfl))
       |(apply zax hT;(iterate 4 exact rfl);(iterate 2 (first|omega|(dsimp only;omega))))
       |(apply zar [42] [] hmix;decide+kernel)
       |(apply zaU hT;(iterate 8 exact rfl);(iterate 2 omega);first|exact hAT'|exact hAr'|exact hA')
       |(apply zab;(iterate 5 exact rfl);first|exact zbd hT rfl rfl hrT' rfl hix|exact zaY hT rfl rfl hrd zaB.enc_len rfl ht2 rfl|exact zaY hT rfl rfl hrr MsgR.enc_len rfl hm2 rfl)
       |(apply zaC (hs:=(hTo.mono (by simp)));(iterate 7 exact rfl))
       |(apply zab;(iterate 5 exact rfl);first|(apply zas hT;exact rfl;exact rfl;(repeat(first|exact List.mem_cons_self|apply List.mem_cons_of_mem|apply List.mem_append_right));exact rfl;exact rfl)|(apply zaq hT;exact rfl;exact rfl;(repeat(first|exact List.mem_cons_self|apply List.mem_cons_of_mem|apply List.mem_append_right));exact rfl))
       |(apply zau;(iterate 5 exact rfl);intro _)|(apply zac hT;(iterate 5 exact rfl);intro _)
       |(apply zaf;(iterate 2 exact rfl))|(apply zag;(iterate 2 exact rfl))
       |(apply zak;exact rfl;all_goals intro hb;all_goals(fail_if_success (change true=true at hb));all_goals(fail_if_success (change false=false at hb));all_goals(try dsimp only at hb);all_goals(try simp only[hb]);all_goals(first|replace hb:=of_decide_eq_true hb|replace hb:=of_decide_eq_false hb|replace hb:=zao hb|replace hb:=zap hb|replace hb:=eq_of_beq hb|replace hb:=ne_of_beq_false hb|skip);all_goals(try(exfalso;omega)))
       |(apply zan;exact rfl;all_goals intro hb;all_goals(try dsimp only at hb);all_goals(try simp only[hb]);all_goals(first|replace hb:=of_decide_eq_true hb|replace hb:=of_decide_eq_false hb|replace hb:=zao hb|replace hb:=zap hb|replace hb:=eq_of_beq hb|replace hb:=ne_of_beq_false hb|skip);all_goals(try(exfalso;omega))))
      all_goals first
       |(exfalso;omega)
       |exact blkN (zaM (a+1) (by(try dsimp only);omega) ⟨by(try dsimp only);omega,hat⟩ ⟨rfl,rfl,rfl,rfl,rfl,trivial⟩ dX)
       |skip
     ·rw[hto,if_pos rfl]at htr
      dsimp only at htr
      rw[hto]at hTo
      repeat' (first
       |apply zaz|apply zaa|apply zay|apply zal|apply zam|apply zae|apply zaw
       |(apply zai hT;(iterate 4 exact rfl))|(apply zaj;(iterate 3 exact rfl))|(apply zad;(iterate 2 exact rfl))
       |(apply zax hT;(iterate 4 exact rfl);(iterate 2 (first|omega|(dsimp only;omega))))
       |(apply zar [42] [] hmix;decide+kernel)
       |(apply zaU hT;(iterate 8 exact rfl);(iterate 2 omega);first|exact hAT'|exact hAr'|exact hA')
       |(apply zab;(iterate 5 exact rfl);first|exact zbd hT rfl rfl hrT' rfl hix|exact zaY hT rfl rfl hrd zaB.enc_len rfl ht2 rfl|exact zaY hT rfl rfl hrr MsgR.enc_len rfl hm2 rfl)
       |(apply zaC (hs:=(hTo.mono (by simp)));(iterate 7 exact rfl))
       |(apply zab;(iterate 5 exact rfl);first|(apply zas hT;exact rfl;exact rfl;(repeat(first|exact List.mem_cons_self|apply List.mem_cons_of_mem|apply List.mem_append_right));exact rfl;exact rfl)|(apply zaq hT;exact rfl;exact rfl;(repeat(first|exact List.mem_cons_self|apply List.mem_cons_of_mem|apply List.mem_append_right));exact rfl))
       |(apply zau;(iterate 5 exact rfl);intro _)|(apply zac hT;(iterate 5 exact rfl);intro _)
       |(apply zaf;(iterate 2 exact rfl))|(apply zag;(iterate 2 exact rfl))
       |(apply zak;exact rfl;all_goals intro hb;all_goals(fail_if_success (change true=true at hb));all_goals(fail_if_success (change false=false at hb));all_goals(try dsimp only at hb);all_goals(try simp only[hb]);all_goals(first|replace hb:=of_decide_eq_true hb|replace hb:=of_decide_eq_false hb|replace hb:=zao hb|replace hb:=zap hb|replace hb:=eq_of_beq hb|replace hb:=ne_of_beq_false hb|skip);all_goals(try(exfalso;omega)))
       |(apply zan;exact rfl;all_goals intro hb;all_goals(try dsimp only at hb);all_goals(try simp only[hb]);all_goals(first|replace hb:=of_decide_eq_true hb|replace hb:=of_decide_eq_false hb|replace hb:=zao hb|replace hb:=zap hb|replace hb:=eq_of_beq hb|replace hb:=ne_of_beq_false hb|skip);all_goals(try(exfalso;omega))))
      all_goals first
       |(exfalso;omega)
       |exact zaM (q+1,a+1) (by dsimp only;omega) ⟨by dsimp only;omega,by dsimp only;omega,htr⟩ ⟨rfl,rfl,rfl,rfl,rfl,trivial⟩ dX
       |skip
    ·obtain rfl:a=l.length:=by omega
     have hd3:decide ((l.length:Int)<(l.length:Int))=false:=by simp
     rw[List.drop_length]at htr
     have hbad:zcL l (rs.map MRow.l)=false:=zdb (i:=k) (r:=r.l) (by rw[List.getElem?_map,hx];rfl) htr
     rw[hbad]
     repeat' (first
      |apply zaz|apply zaa|apply zay|apply zal|apply zam|apply zae|apply zaw
      |(apply zai hT;(iterate 4 exact rfl))|(apply zaj;(iterate 3 exact rfl))|(apply zad;(iterate 2 exact rfl))
      |(apply zax hT;(iterate 4 exact rfl);(iterate 2 (first|omega|(dsimp only;omega))))
      |(apply zar [42] [] hmix;decide+kernel)
      |(apply zab;(iterate 5 exact rfl);first|(apply zas hT;exact rfl;exact rfl;(repeat(first|exact List.mem_cons_self|apply List.mem_cons_of_mem|apply List.mem_append_right));exact rfl;exact rfl)|(apply zaq hT;exact rfl;exact rfl;(repeat(first|exact List.mem_cons_self|apply List.mem_cons_of_mem|apply List.mem_append_right));exact rfl))
      |(apply zau;(iterate 5 exact rfl);intro _)|(apply zac hT;(iterate 5 exact rfl);intro _)
      |(apply zaf;(iterate 2 exact rfl))|(apply zag;(iterate 2 exact rfl))
      |(apply zak;exact rfl;all_goals intro hb;all_goals(fail_if_success (change true=true at hb));all_goals(fail_if_success (change false=false at hb));all_goals(try dsimp only at hb);all_goals(try simp only[hb]);all_goals(first|replace hb:=of_decide_eq_true hb|replace hb:=of_decide_eq_false hb|replace hb:=zao hb|replace hb:=zap hb|replace hb:=eq_of_beq hb|replace hb:=ne_of_beq_false hb|skip);all_goals(try(exfalso;omega)))
      |(apply zan;exact rfl;all_goals intro hb;all_goals(try dsimp only at hb);all_goals(try simp only[hb]);all_goals(first|replace hb:=of_decide_eq_true hb|replace hb:=of_decide_eq_false hb|replace hb:=zao hb|replace hb:=zap hb|replace hb:=eq_of_beq hb|replace hb:=ne_of_beq_false hb|skip);all_goals(try(exfalso;omega))))
     all_goals first
      |(exfalso;omega)
      |(apply ret1;exact rfl;exact⟨rfl,dX⟩)
      |skip
   ·rw[if_pos hkd]at htr
    repeat' (first
     |(apply zb0 hT;(iterate 5 exact rfl))
     |apply zaz|apply zaa|apply zay|apply zal|apply zam|apply zae|apply zaw
     |(apply zai hT;(iterate 4 exact rfl))|(apply zaj;(iterate 3 exact rfl))|(apply zad;(iterate 2 exact rfl))
     |(apply zax hT;(iterate 4 exact rfl);(iterate 2 (first|omega|(dsimp only;omega))))
     |(apply zar [] [] hmix;decide+kernel)
     |(apply zaU hT;(iterate 8 exact rfl);(iterate 2 omega);first|exact hAT'|exact hAr')
     |(apply zab;(iterate 5 exact rfl);first|exact zbd hT rfl rfl hrT' rfl hix|exact zc6 hT rfl rfl hrr MsgR.enc_len (zbq _ _ _) hm2 (f:=0) (by decide) rfl)
     |(apply zab;(iterate 5 exact rfl);first|(apply zas hT;exact rfl;exact rfl;(repeat(first|exact List.mem_cons_self|apply List.mem_cons_of_mem|apply List.mem_append_right));exact rfl;exact rfl)|(apply zaq hT;exact rfl;exact rfl;(repeat(first|exact List.mem_cons_self|apply List.mem_cons_of_mem|apply List.mem_append_right));exact rfl))
     |(apply zau;(iterate 5 exact rfl);intro _)|(apply zac hT;(iterate 5 exact rfl);intro _)
     |(apply zaf;(iterate 2 exact rfl))|(apply zag;(iterate 2 exact rfl))
     |(apply zak;exact rfl;all_goals intro hb;all_goals(fail_if_success (change true=true at hb));all_goals(fail_if_success (change false=false at hb));all_goals(try dsimp only at hb);all_goals(try simp only[hb]);all_goals(first|replace hb:=of_decide_eq_true hb|replace hb:=of_decide_eq_false hb|replace hb:=zao hb|replace hb:=zap hb|replace hb:=eq_of_beq hb|replace hb:=ne_of_beq_false hb|skip);all_goals(try(exfalso;omega)))
     |(apply zan;exact rfl;all_goals intro hb;all_goals(try dsimp only at hb);all_goals(try simp only[hb]);all_goals(first|replace hb:=of_decide_eq_true hb|replace hb:=of_decide_eq_false hb|replace hb:=zao hb|replace hb:=zap hb|replace hb:=eq_of_beq hb|replace hb:=ne_of_beq_false hb|skip);all_goals(try(exfalso;omega))))
    all_goals first
     |(exfalso;omega)
     |exact zaM (q+1,i) (by dsimp only;omega) ⟨by dsimp only;omega,by dsimp only;omega,htr⟩ ⟨rfl,rfl,rfl,rfl,rfl,trivial⟩ dX
     |skip
  ·obtain rfl:q=r.l.length:=by omega
   have hd2:decide ((r.l.length:Int)<(r.l.length:Int))=false:=by simp
   rw[List.drop_length]at htr
   repeat' (first
    |apply zaz|apply zaa|apply zay|apply zal|apply zam|apply zae|apply zaw
    |(apply zai hT;(iterate 4 exact rfl))|(apply zaj;(iterate 3 exact rfl))|(apply zad;(iterate 2 exact rfl))
    |(apply zax hT;(iterate 4 exact rfl);(iterate 2 (first|omega|(dsimp only;omega))))
    |(apply zar [] [] hmix;decide+kernel)
    |(apply zaU hT;(iterate 8 exact rfl);(iterate 2 omega);exact hAT')
    |(apply zab;(iterate 5 exact rfl);exact zbd hT rfl rfl hrT' rfl hix)
    |(apply zab;(iterate 5 exact rfl);first|(apply zas hT;exact rfl;exact rfl;(repeat(first|exact List.mem_cons_self|apply List.mem_cons_of_mem|apply List.mem_append_right));exact rfl;exact rfl)|(apply zaq hT;exact rfl;exact rfl;(repeat(first|exact List.mem_cons_self|apply List.mem_cons_of_mem|apply List.mem_append_right));exact rfl))
    |(apply zau;(iterate 5 exact rfl);intro _)|(apply zac hT;(iterate 5 exact rfl);intro _)
    |(apply zaf;(iterate 2 exact rfl))|(apply zag;(iterate 2 exact rfl))
    |(apply zak;exact rfl;all_goals intro hb;all_goals(fail_if_success (change true=true at hb));all_goals(fail_if_success (change false=false at hb));all_goals(try dsimp only at hb);all_goals(try simp only[hb]);all_goals(first|replace hb:=of_decide_eq_true hb|replace hb:=of_decide_eq_false hb|replace hb:=zao hb|replace hb:=zap hb|replace hb:=eq_of_beq hb|replace hb:=ne_of_beq_false hb|skip);all_goals(try(exfalso;omega)))
    |(apply zan;exact rfl;all_goals intro hb;all_goals(try dsimp only at hb);all_goals(try simp only[hb]);all_goals(first|replace hb:=of_decide_eq_true hb|replace hb:=of_decide_eq_false hb|replace hb:=zao hb|replace hb:=zap hb|replace hb:=eq_of_beq hb|replace hb:=ne_of_beq_false hb|skip);all_goals(try(exfalso;omega))))
   all_goals first
    |(exfalso;omega)
    |exact zaM (k+1) (by(try dsimp only);omega) ⟨by(try dsimp only);omega,fun j r' hj hr'=>by
      by_cases e:j=k
      ·rw[e,hx]at hr';cases hr';rw[e];exact htr
      ·exact hgd j r' (by(try dsimp only at hj);omega) hr'⟩ ⟨rfl,rfl,rfl,trivial⟩ dX
    |skip
 ·obtain rfl:k=rs.length:=by omega
  have hd1:decide ((rs.length:Int)<(rs.length:Int))=false:=by simp
  have hgood:zcL l (rs.map MRow.l)=true:=zcC (fun i r hir=>by
   rw[List.getElem?_map]at hir
   obtain⟨x,hx,rfl⟩:=Option.map_eq_some_iff.1 hir
   exact hgd i x (gsi.1 hx).1 hx)
  rw[hgood]
  repeat' (first
   |apply zaz|apply zaa|apply zay|apply zal|apply zam|apply zae|apply zaw
   |(apply zai hT;(iterate 4 exact rfl))|(apply zaj;(iterate 3 exact rfl))|(apply zad;(iterate 2 exact rfl))
   |(apply zax hT;(iterate 4 exact rfl);(iterate 2 (first|omega|(dsimp only;omega))))
   |(apply zar [] [] hmix;decide+kernel)
   |(apply zab;(iterate 5 exact rfl);first|(apply zas hT;exact rfl;exact rfl;(repeat(first|exact List.mem_cons_self|apply List.mem_cons_of_mem|apply List.mem_append_right));exact rfl;exact rfl)|(apply zaq hT;exact rfl;exact rfl;(repeat(first|exact List.mem_cons_self|apply List.mem_cons_of_mem|apply List.mem_append_right));exact rfl))
   |(apply zau;(iterate 5 exact rfl);intro _)|(apply zac hT;(iterate 5 exact rfl);intro _)
   |(apply zaf;(iterate 2 exact rfl))|(apply zag;(iterate 2 exact rfl))
   |(apply zak;exact rfl;all_goals intro hb;all_goals(fail_if_success (change true=true at hb));all_goals(fail_if_success (change false=false at hb));all_goals(try dsimp only at hb);all_goals(try simp only[hb]);all_goals(first|replace hb:=of_decide_eq_true hb|replace hb:=of_decide_eq_false hb|replace hb:=zao hb|replace hb:=zap hb|replace hb:=eq_of_beq hb|replace hb:=ne_of_beq_false hb|skip);all_goals(try(exfalso;omega)))
   |(apply zan;exact rfl;all_goals intro hb;all_goals(try dsimp only at hb);all_goals(try simp only[hb]);all_goals(first|replace hb:=of_decide_eq_true hb|replace hb:=of_decide_eq_false hb|replace hb:=zao hb|replace hb:=zap hb|replace hb:=eq_of_beq hb|replace hb:=ne_of_beq_false hb|skip);all_goals(try(exfalso;omega))))
  all_goals first
   |(exfalso;omega)
   |(apply ret1;exact rfl;exact⟨rfl,dX⟩)
   |skip
end Go.Proofs.YteocfhdocpeokaaGreat
set_option linter.unusedSimpArgs false
set_option linter.unusedVariables false
namespace Go.Proofs.YteocfhdocpeokaaGreat
open Go Go.Sl
attribute [local irreducible] AW ES Ld RetQ
set_option maxRecDepth 100000
theorem zeI (W:World)(h:List zah)(A:Option Addr)(n c:Nat)(l:List za1)(hn:l.length=n)(hr:zaD W h A n 7 (l.flatMap za1.enc))(fn:FuncId)(cap:List Value)(p:za1→Bool)
 (hf:∀x∈l,zaF Tryz.prog W fn ([.agg x.enc.toArray]++cap) h (.bool (p x)))(hb:n≤4611686018427387903):
 zaF Tryz.prog W 132 [.slice A n c,.func (.func fn) #[] cap.toArray] h (.int .i64 (za0 p l)):=by
 refine zaF.of (fun h' hs=> ?_)
 have hr':=hr.mono hs
 refine zaA Tryz.func132 rfl rfl Tryz.results132 Tryz.ntmps132 rfl rfl ?_
 refine zaO hr' rfl (fun hA=> ?_)
 repeat' (first
  |apply zaz|apply zaa|apply zay|apply zal|apply zam|apply zae|apply zaw
  |(apply zai hT;(iterate 4 exact rfl))|(apply zaj;(iterate 3 exact rfl))|(apply zad;(iterate 2 exact rfl))
  |(apply zax hT;(iterate 4 exact rfl);(iterate 2 (first|omega|(dsimp only;omega))))
  |(apply zar [] [] hmix;decide+kernel)
  |(apply zab;(iterate 5 exact rfl);first|(apply zas hT;exact rfl;exact rfl;(repeat(first|exact List.mem_cons_self|apply List.mem_cons_of_mem));exact rfl;exact rfl)|(apply zaq hT;exact rfl;exact rfl;(repeat(first|exact List.mem_cons_self|apply List.mem_cons_of_mem));exact rfl))
  |(apply zau;(iterate 5 exact rfl);intro _)|(apply zac hT;(iterate 5 exact rfl);intro _)
  |(apply zaf;(iterate 2 exact rfl))|(apply zag;(iterate 2 exact rfl))
  |(apply zak;exact rfl;all_goals intro hb;all_goals(fail_if_success (change true=true at hb));all_goals(fail_if_success (change false=false at hb));all_goals(try dsimp only at hb);all_goals(try simp only[hb]);all_goals(first|replace hb:=of_decide_eq_true hb|replace hb:=of_decide_eq_false hb|replace hb:=zao hb|replace hb:=zap hb|replace hb:=eq_of_beq hb|replace hb:=ne_of_beq_false hb|skip);all_goals(try(exfalso;omega)))
  |(apply zan;exact rfl;all_goals intro hb;all_goals(try dsimp only at hb);all_goals(try simp only[hb]);all_goals(first|replace hb:=of_decide_eq_true hb|replace hb:=of_decide_eq_false hb|replace hb:=zao hb|replace hb:=zap hb|replace hb:=eq_of_beq hb|replace hb:=ne_of_beq_false hb|skip);all_goals(try(exfalso;omega))))
 refine zds (α:=Nat) (E:=fun k=>[(0,.slice A n c),(1,.func (.func fn) #[] cap.toArray),(7,.int .i64 n),(8,.int .i64 k)]) (H:=fun _=>h') (μ:=fun k=>n - k)
  (S:=fun k=>k≤n∧∀(j:Nat) y,j<k→l[j]? =some y→p y=false) 0 (J:=[]) ⟨Nat.zero_le _,fun j y hj=>by omega⟩ ⟨rfl,rfl,rfl,rfl,trivial⟩ (plr _) ?_
 rintro k ⟨hk1,hk2⟩
 by_cases hlt:k<n
 ·obtain⟨x,hx⟩:∃x,l[k]? =some x:=⟨l[k]'(by omega),gge (by omega)⟩
  have hx2:l[(k:Int).toNat]? =some x:=by simpa using hx
  have hfx:=(hf x (mog hx)).mono hs
  have hA':=hA (by omega)
  repeat' (first
   |apply zaz|apply zaa|apply zay|apply zal|apply zam|apply zae|apply zaw
   |(apply zai hT;(iterate 4 exact rfl))|(apply zaj;(iterate 3 exact rfl))|(apply zad;(iterate 2 exact rfl))
   |(apply zax hT;(iterate 4 exact rfl);(iterate 2 (first|omega|(dsimp only;omega))))
   |(apply zar [] [] hmix;decide+kernel)
   |(apply zaU hT;(iterate 8 exact rfl);(iterate 2 omega);exact hA')
   |(apply zab;(iterate 5 exact rfl);exact zaY hT rfl rfl hr' za1.enc_len rfl hx2 rfl)
   |(apply zaC (hs:=hfx);(iterate 7 exact rfl))
   |(apply zab;(iterate 5 exact rfl);first|(apply zas hT;exact rfl;exact rfl;(repeat(first|exact List.mem_cons_self|apply List.mem_cons_of_mem));exact rfl;exact rfl)|(apply zaq hT;exact rfl;exact rfl;(repeat(first|exact List.mem_cons_self|apply List.mem_cons_of_mem));exact rfl))
   |(apply zau;(iterate 5 exact rfl);intro _)|(apply zac hT;(iterate 5 exact rfl);intro _)
   |(apply zaf;(iterate 2 exact rfl))|(apply zag;(iterate 2 exact rfl))
   |(apply zak;exact rfl;all_goals intro hb;all_goals(fail_if_success (change true=true at hb));all_goals(fail_if_success (change false=false at hb));all_goals(try dsimp only at hb);all_goals(try simp only[hb]);all_goals(first|replace hb:=of_decide_eq_true hb|replace hb:=of_decide_eq_false hb|replace hb:=zao hb|replace hb:=zap hb|replace hb:=eq_of_beq hb|replace hb:=ne_of_beq_false hb|skip);all_goals(try(exfalso;omega)))
   |(apply zan;exact rfl;all_goals intro hb;all_goals(try dsimp only at hb);all_goals(try simp only[hb]);all_goals(first|replace hb:=of_decide_eq_true hb|replace hb:=of_decide_eq_false hb|replace hb:=zao hb|replace hb:=zap hb|replace hb:=eq_of_beq hb|replace hb:=ne_of_beq_false hb|skip);all_goals(try(exfalso;omega))))
  ·exact zfa (J:=[]) rfl (by rw[zc9 hx hb hk2]) (plr _)
  ·have hpx:=hb
   refine⟨k+1,[],by dsimp only;omega,⟨by omega,fun j y hj hy=> ?_⟩,⟨rfl,rfl,rfl,rfl,trivial⟩,plr _⟩
   by_cases hjk:j<k
   ·exact hk2 j y hjk hy
   ·obtain rfl:j=k:=by omega
    rw[hx]at hy;cases hy;exact hpx
 ·repeat' (first
   |apply zaz|apply zaa|apply zay|apply zal|apply zam|apply zae|apply zaw
   |(apply zai hT;(iterate 4 exact rfl))|(apply zaj;(iterate 3 exact rfl))|(apply zad;(iterate 2 exact rfl))
   |(apply zax hT;(iterate 4 exact rfl);(iterate 2 (first|omega|(dsimp only;omega))))
   |(apply zar [] [] hmix;decide+kernel)
   |(apply zab;(iterate 5 exact rfl);first|(apply zas hT;exact rfl;exact rfl;(repeat(first|exact List.mem_cons_self|apply List.mem_cons_of_mem));exact rfl;exact rfl)|(apply zaq hT;exact rfl;exact rfl;(repeat(first|exact List.mem_cons_self|apply List.mem_cons_of_mem));exact rfl))
   |(apply zau;(iterate 5 exact rfl);intro _)|(apply zac hT;(iterate 5 exact rfl);intro _)
   |(apply zaf;(iterate 2 exact rfl))|(apply zag;(iterate 2 exact rfl))
   |(apply zak;exact rfl;all_goals intro hb;all_goals(fail_if_success (change true=true at hb));all_goals(fail_if_success (change false=false at hb));all_goals(try dsimp only at hb);all_goals(try simp only[hb]);all_goals(first|replace hb:=of_decide_eq_true hb|replace hb:=of_decide_eq_false hb|replace hb:=zao hb|replace hb:=zap hb|replace hb:=eq_of_beq hb|replace hb:=ne_of_beq_false hb|skip);all_goals(try(exfalso;omega)))
   |(apply zan;exact rfl;all_goals intro hb;all_goals(try dsimp only at hb);all_goals(try simp only[hb]);all_goals(first|replace hb:=of_decide_eq_true hb|replace hb:=of_decide_eq_false hb|replace hb:=zao hb|replace hb:=zap hb|replace hb:=eq_of_beq hb|replace hb:=ne_of_beq_false hb|skip);all_goals(try(exfalso;omega))))
  exact zfa (J:=[]) rfl (by rw[zbA (fun(j:Nat) y hj=>hk2 j y (by have:=(gsi.1 hj).1;omega) hj)]) (plr _)
theorem zdw (W:World)(h:List zah)(A:Option Addr)(n c:Nat)(l:List za1)(hn:l.length=n)(hr:zaD W h A n 7 (l.flatMap za1.enc))(fn:FuncId)(cap:List Value)(p:za1→Bool)
 (hf:∀x∈l,zaF Tryz.prog W fn ([.agg x.enc.toArray]++cap) h (.bool (p x)))(hb:n≤4611686018427387903):
 zaF Tryz.prog W 94 [.slice A n c,.func (.func fn) #[] cap.toArray] h (.bool (decide (za0 p l≥0))):=by
 refine zaF.of (fun h' hs=> ?_)
 refine zaA Tryz.func94 rfl rfl Tryz.results94 Tryz.ntmps94 rfl rfl ?_
 repeat' (first
  |apply zaz|apply zaa|apply zay|apply zal|apply zam|apply zae|apply zaw
  |(apply zai hT;(iterate 4 exact rfl))|(apply zaj;(iterate 3 exact rfl))|(apply zad;(iterate 2 exact rfl))
  |(apply zax hT;(iterate 4 exact rfl);(iterate 2 (first|omega|(dsimp only;omega))))
  |(apply zar [] [] hmix;decide+kernel)
  |(apply zaC (hs:=((zeI W h A n c l hn hr fn cap p hf hb).mono hs));(iterate 7 exact rfl))
  |(apply zab;(iterate 5 exact rfl);first|(apply zas hT;exact rfl;exact rfl;(repeat(first|exact List.mem_cons_self|apply List.mem_cons_of_mem));exact rfl;exact rfl)|(apply zaq hT;exact rfl;exact rfl;(repeat(first|exact List.mem_cons_self|apply List.mem_cons_of_mem));exact rfl))
  |(apply zau;(iterate 5 exact rfl);intro _)|(apply zac hT;(iterate 5 exact rfl);intro _)
  |(apply zaf;(iterate 2 exact rfl))|(apply zag;(iterate 2 exact rfl))
  |(apply zak;exact rfl;all_goals intro hb;all_goals(fail_if_success (change true=true at hb));all_goals(fail_if_success (change false=false at hb));all_goals(try dsimp only at hb);all_goals(try simp only[hb]);all_goals(first|replace hb:=of_decide_eq_true hb|replace hb:=of_decide_eq_false hb|replace hb:=zao hb|replace hb:=zap hb|replace hb:=eq_of_beq hb|replace hb:=ne_of_beq_false hb|skip);all_goals(try(exfalso;omega)))
  |(apply zan;exact rfl;all_goals intro hb;all_goals(try dsimp only at hb);all_goals(try simp only[hb]);all_goals(first|replace hb:=of_decide_eq_true hb|replace hb:=of_decide_eq_false hb|replace hb:=zao hb|replace hb:=zap hb|replace hb:=eq_of_beq hb|replace hb:=ne_of_beq_false hb|skip);all_goals(try(exfalso;omega))))
 exact zfa (J:=[]) rfl rfl (plr _)
theorem zhy (W:World)(h:List zah)(A:Option Addr)(n c:Nat)(cs:List Value)(hr:zaD W h A n 7 cs)(hb:n*56≤140737488355328):
 zaL Tryz.prog W 46 [.slice A n c] h (fun v h'=>∃A' c',v=.slice A' n c'∧h'=.own A' n c' 95 7 cs::h):=by
 refine zaL.drop ?_
 refine zaA Tryz.func46 rfl rfl Tryz.results46 Tryz.ntmps46 rfl rfl ?_
 refine zaO hr rfl (fun hA=> ?_)
 cases A with
 |none=>
  have hn:n=0:=by
   rcases Nat.eq_zero_or_pos n with h|h
   ·exact h
   ·have:=hA h;simp at this
  subst hn
  have hcs:cs=[]:=List.eq_nil_of_length_eq_zero (by simpa using hr.len)
  subst hcs
  refine zbG (fun w hw=>⟨_,hw.own_nil 95 7,?_⟩)
  repeat' (first
   |apply zaz|apply zaa|apply zay|apply zal|apply zam|apply zae|apply zaw
   |(apply zai hT;(iterate 4 exact rfl))|(apply zaj;(iterate 3 exact rfl))|(apply zad;(iterate 2 exact rfl))
   |(apply zax hT;(iterate 4 exact rfl);(iterate 2 (first|omega|(dsimp only;omega))))
   |(apply zar [] [] hmix;decide+kernel)
   |(apply zab;(iterate 5 exact rfl);first|(apply zas hT;exact rfl;exact rfl;(repeat(first|exact List.mem_cons_self|apply List.mem_cons_of_mem));exact rfl;exact rfl)|(apply zaq hT;exact rfl;exact rfl;(repeat(first|exact List.mem_cons_self|apply List.mem_cons_of_mem));exact rfl))
   |(apply zau;(iterate 5 exact rfl);intro _)|(apply zac hT;(iterate 5 exact rfl);intro _)
   |(apply zaf;(iterate 2 exact rfl))|(apply zag;(iterate 2 exact rfl))
   |(apply zak;exact rfl;all_goals intro hb;all_goals(fail_if_success (change true=true at hb));all_goals(fail_if_success (change false=false at hb));all_goals(try dsimp only at hb);all_goals(try simp only[hb]);all_goals(first|replace hb:=of_decide_eq_true hb|replace hb:=of_decide_eq_false hb|replace hb:=zao hb|replace hb:=zap hb|replace hb:=eq_of_beq hb|replace hb:=ne_of_beq_false hb|skip);all_goals(try(exfalso;omega)))
   |(apply zan;exact rfl;all_goals intro hb;all_goals(try dsimp only at hb);all_goals(try simp only[hb]);all_goals(first|replace hb:=of_decide_eq_true hb|replace hb:=of_decide_eq_false hb|replace hb:=zao hb|replace hb:=zap hb|replace hb:=eq_of_beq hb|replace hb:=ne_of_beq_false hb|skip);all_goals(try(exfalso;omega))))
  apply ret1;exact rfl
  exact⟨[],_,plr _,none,0,rfl,rfl⟩
 |some ad=>
  repeat' (first
   |apply zaz|apply zaa|apply zay|apply zal|apply zam|apply zae|apply zaw
   |(apply zai hT;(iterate 4 exact rfl))|(apply zaj;(iterate 3 exact rfl))|(apply zad;(iterate 2 exact rfl))
   |(apply zax hT;(iterate 4 exact rfl);(iterate 2 (first|omega|(dsimp only;omega))))
   |(apply zar [] [] hmix;decide+kernel)
   |(apply zaI hT;(iterate 12 exact rfl);intro g1)
   |(apply za2 hT;(iterate 10 exact rfl);exact sel0;exact hr.cons;omega;(show(0+n)*56≤_;omega);intro A' c')
   |(apply zab;(iterate 5 exact rfl);first|(apply zas hT;exact rfl;exact rfl;(repeat(first|exact List.mem_cons_self|apply List.mem_cons_of_mem));exact rfl;exact rfl)|(apply zaq hT;exact rfl;exact rfl;(repeat(first|exact List.mem_cons_self|apply List.mem_cons_of_mem));exact rfl))
   |(apply zau;(iterate 5 exact rfl);intro _)|(apply zac hT;(iterate 5 exact rfl);intro _)
   |(apply zaf;(iterate 2 exact rfl))|(apply zag;(iterate 2 exact rfl))
   |(apply zak;exact rfl;all_goals intro hb;all_goals(fail_if_success (change true=true at hb));all_goals(fail_if_success (change false=false at hb));all_goals(try dsimp only at hb);all_goals(try simp only[hb]);all_goals(first|replace hb:=of_decide_eq_true hb|replace hb:=of_decide_eq_false hb|replace hb:=zao hb|replace hb:=zap hb|replace hb:=eq_of_beq hb|replace hb:=ne_of_beq_false hb|skip);all_goals(try(exfalso;omega)))
   |(apply zan;exact rfl;all_goals intro hb;all_goals(try dsimp only at hb);all_goals(try simp only[hb]);all_goals(first|replace hb:=of_decide_eq_true hb|replace hb:=of_decide_eq_false hb|replace hb:=zao hb|replace hb:=zap hb|replace hb:=eq_of_beq hb|replace hb:=ne_of_beq_false hb|skip);all_goals(try(exfalso;omega))))
  apply ret1;exact rfl
  refine⟨[],_,plr _,A',c',by rw[Nat.zero_add],?_⟩
  show zah.own A' (0+n) c' 95 7 ([]++cs)::h=_
  simp
end Go.Proofs.YteocfhdocpeokaaGreat
set_option linter.unusedSimpArgs false
set_option linter.unusedVariables false
namespace Go.Proofs.YteocfhdocpeokaaGreat
open Go Go.Sl
attribute [local irreducible] AW ES Ld RetQ
set_option maxRecDepth 100000
theorem zec (W:World)(h:List zah)(A:Option Addr)(n c:Nat)(l:List zaJ)(hn:l.length=n)(hr:zaD W h A n 3 (l.flatMap zaJ.enc))(fn:FuncId)(cap:List Value)(p:zaJ→Bool)
 (hf:∀x∈l,zaF Tryz.prog W fn ([.agg x.enc.toArray]++cap) h (.bool (p x)))(hb:n≤4611686018427387903):
 zaF Tryz.prog W 133 [.slice A n c,.func (.func fn) #[] cap.toArray] h (.int .i64 (za0 p l)):=by
 refine zaF.of (fun h' hs=> ?_)
 have hr':=hr.mono hs
 refine zaA Tryz.func133 rfl rfl Tryz.results133 Tryz.ntmps133 rfl rfl ?_
 refine zaO hr' rfl (fun hA=> ?_)
 repeat' (first
  |apply zaz|apply zaa|apply zay|apply zal|apply zam|apply zae|apply zaw
  |(apply zai hT;(iterate 4 exact rfl))|(apply zaj;(iterate 3 exact rfl))|(apply zad;(iterate 2 exact rfl))
  |(apply zax hT;(iterate 4 exact rfl);(iterate 2 (first|omega|(dsimp only;omega))))
  |(apply zar [] [] hmix;decide+kernel)
  |(apply zab;(iterate 5 exact rfl);first|(apply zas hT;exact rfl;exact rfl;(repeat(first|exact List.mem_cons_self|apply List.mem_cons_of_mem));exact rfl;exact rfl)|(apply zaq hT;exact rfl;exact rfl;(repeat(first|exact List.mem_cons_self|apply List.mem_cons_of_mem));exact rfl))
  |(apply zau;(iterate 5 exact rfl);intro _)|(apply zac hT;(iterate 5 exact rfl);intro _)
  |(apply zaf;(iterate 2 exact rfl))|(apply zag;(iterate 2 exact rfl))
  |(apply zak;exact rfl;all_goals intro hb;all_goals(fail_if_success (change true=true at hb));all_goals(fail_if_success (change false=false at hb));all_goals(try dsimp only at hb);all_goals(try simp only[hb]);all_goals(first|replace hb:=of_decide_eq_true hb|replace hb:=of_decide_eq_false hb|replace hb:=zao hb|replace hb:=zap hb|replace hb:=eq_of_beq hb|replace hb:=ne_of_beq_false hb|skip);all_goals(try(exfalso;omega)))
  |(apply zan;exact rfl;all_goals intro hb;all_goals(try dsimp only at hb);all_goals(try simp only[hb]);all_goals(first|replace hb:=of_decide_eq_true hb|replace hb:=of_decide_eq_false hb|replace hb:=zao hb|replace hb:=zap hb|replace hb:=eq_of_beq hb|replace hb:=ne_of_beq_false hb|skip);all_goals(try(exfalso;omega))))
 refine zds (α:=Nat) (E:=fun k=>[(0,.slice A n c),(1,.func (.func fn) #[] cap.toArray),(7,.int .i64 n),(8,.int .i64 k)]) (H:=fun _=>h') (μ:=fun k=>n - k)
  (S:=fun k=>k≤n∧∀(j:Nat) y,j<k→l[j]? =some y→p y=false) 0 (J:=[]) ⟨Nat.zero_le _,fun j y hj=>by omega⟩ ⟨rfl,rfl,rfl,rfl,trivial⟩ (plr _) ?_
 rintro k ⟨hk1,hk2⟩
 by_cases hlt:k<n
 ·obtain⟨x,hx⟩:∃x,l[k]? =some x:=⟨l[k]'(by omega),gge (by omega)⟩
  have hx2:l[(k:Int).toNat]? =some x:=by simpa using hx
  have hfx:=(hf x (mog hx)).mono hs
  have hA':=hA (by omega)
  repeat' (first
   |apply zaz|apply zaa|apply zay|apply zal|apply zam|apply zae|apply zaw
   |(apply zai hT;(iterate 4 exact rfl))|(apply zaj;(iterate 3 exact rfl))|(apply zad;(iterate 2 exact rfl))
   |(apply zax hT;(iterate 4 exact rfl);(iterate 2 (first|omega|(dsimp only;omega))))
   |(apply zar [] [] hmix;decide+kernel)
   |(apply zaU hT;(iterate 8 exact rfl);(iterate 2 omega);exact hA')
   |(apply zab;(iterate 5 exact rfl);exact zaY hT rfl rfl hr' zaJ.enc_len rfl hx2 rfl)
   |(apply zaC (hs:=hfx);(iterate 7 exact rfl))
   |(apply zab;(iterate 5 exact rfl);first|(apply zas hT;exact rfl;exact rfl;(repeat(first|exact List.mem_cons_self|apply List.mem_cons_of_mem));exact rfl;exact rfl)|(apply zaq hT;exact rfl;exact rfl;(repeat(first|exact List.mem_cons_self|apply List.mem_cons_of_mem));exact rfl))
   |(apply zau;(iterate 5 exact rfl);intro _)|(apply zac hT;(iterate 5 exact rfl);intro _)
   |(apply zaf;(iterate 2 exact rfl))|(apply zag;(iterate 2 exact rfl))
   |(apply zak;exact rfl;all_goals intro hb;all_goals(fail_if_success (change true=true at hb));all_goals(fail_if_success (change false=false at hb));all_goals(try dsimp only at hb);all_goals(try simp only[hb]);all_goals(first|replace hb:=of_decide_eq_true hb|replace hb:=of_decide_eq_false hb|replace hb:=zao hb|replace hb:=zap hb|replace hb:=eq_of_beq hb|replace hb:=ne_of_beq_false hb|skip);all_goals(try(exfalso;omega)))
   |(apply zan;exact rfl;all_goals intro hb;all_goals(try dsimp only at hb);all_goals(try simp only[hb]);all_goals(first|replace hb:=of_decide_eq_true hb|replace hb:=of_decide_eq_false hb|replace hb:=zao hb|replace hb:=zap hb|replace hb:=eq_of_beq hb|replace hb:=ne_of_beq_false hb|skip);all_goals(try(exfalso;omega))))
  ·exact zfa (J:=[]) rfl (by rw[zc9 hx hb hk2]) (plr _)
  ·have hpx:=hb
   refine⟨k+1,[],by dsimp only;omega,⟨by omega,fun j y hj hy=> ?_⟩,⟨rfl,rfl,rfl,rfl,trivial⟩,plr _⟩
   by_cases hjk:j<k
   ·exact hk2 j y hjk hy
   ·obtain rfl:j=k:=by omega
    rw[hx]at hy;cases hy;exact hpx
 ·repeat' (first
   |apply zaz|apply zaa|apply zay|apply zal|apply zam|apply zae|apply zaw
   |(apply zai hT;(iterate 4 exact rfl))|(apply zaj;(iterate 3 exact rfl))|(apply zad;(iterate 2 exact rfl))
   |(apply zax hT;(iterate 4 exact rfl);(iterate 2 (first|omega|(dsimp only;omega))))
   |(apply zar [] [] hmix;decide+kernel)
   |(apply zab;(iterate 5 exact rfl);first|(apply zas hT;exact rfl;exact rfl;(repeat(first|exact List.mem_cons_self|apply List.mem_cons_of_mem));exact rfl;exact rfl)|(apply zaq hT;exact rfl;exact rfl;(repeat(first|exact List.mem_cons_self|apply List.mem_cons_of_mem));exact rfl))
   |(apply zau;(iterate 5 exact rfl);intro _)|(apply zac hT;(iterate 5 exact rfl);intro _)
   |(apply zaf;(iterate 2 exact rfl))|(apply zag;(iterate 2 exact rfl))
   |(apply zak;exact rfl;all_goals intro hb;all_goals(fail_if_success (change true=true at hb));all_goals(fail_if_success (change false=false at hb));all_goals(try dsimp only at hb);all_goals(try simp only[hb]);all_goals(first|replace hb:=of_decide_eq_true hb|replace hb:=of_decide_eq_false hb|replace hb:=zao hb|replace hb:=zap hb|replace hb:=eq_of_beq hb|replace hb:=ne_of_beq_false hb|skip);all_goals(try(exfalso;omega)))
   |(apply zan;exact rfl;all_goals intro hb;all_goals(try dsimp only at hb);all_goals(try simp only[hb]);all_goals(first|replace hb:=of_decide_eq_true hb|replace hb:=of_decide_eq_false hb|replace hb:=zao hb|replace hb:=zap hb|replace hb:=eq_of_beq hb|replace hb:=ne_of_beq_false hb|skip);all_goals(try(exfalso;omega))))
  exact zfa (J:=[]) rfl (by rw[zbA (fun(j:Nat) y hj=>hk2 j y (by have:=(gsi.1 hj).1;omega) hj)]) (plr _)
theorem zdc (W:World)(h:List zah)(A:Option Addr)(n c:Nat)(l:List zaJ)(hn:l.length=n)(hr:zaD W h A n 3 (l.flatMap zaJ.enc))(fn:FuncId)(cap:List Value)(p:zaJ→Bool)
 (hf:∀x∈l,zaF Tryz.prog W fn ([.agg x.enc.toArray]++cap) h (.bool (p x)))(hb:n≤4611686018427387903):
 zaF Tryz.prog W 95 [.slice A n c,.func (.func fn) #[] cap.toArray] h (.bool (decide (za0 p l≥0))):=by
 refine zaF.of (fun h' hs=> ?_)
 refine zaA Tryz.func95 rfl rfl Tryz.results95 Tryz.ntmps95 rfl rfl ?_
 repeat' (first
  |apply zaz|apply zaa|apply zay|apply zal|apply zam|apply zae|apply zaw
  |(apply zai hT;(iterate 4 exact rfl))|(apply zaj;(iterate 3 exact rfl))|(apply zad;(iterate 2 exact rfl))
  |(apply zax hT;(iterate 4 exact rfl);(iterate 2 (first|omega|(dsimp only;omega))))
  |(apply zar [] [] hmix;decide+kernel)
  |(apply zaC (hs:=((zec W h A n c l hn hr fn cap p hf hb).mono hs));(iterate 7 exact rfl))
  |(apply zab;(iterate 5 exact rfl);first|(apply zas hT;exact rfl;exact rfl;(repeat(first|exact List.mem_cons_self|apply List.mem_cons_of_mem));exact rfl;exact rfl)|(apply zaq hT;exact rfl;exact rfl;(repeat(first|exact List.mem_cons_self|apply List.mem_cons_of_mem));exact rfl))
  |(apply zau;(iterate 5 exact rfl);intro _)|(apply zac hT;(iterate 5 exact rfl);intro _)
  |(apply zaf;(iterate 2 exact rfl))|(apply zag;(iterate 2 exact rfl))
  |(apply zak;exact rfl;all_goals intro hb;all_goals(fail_if_success (change true=true at hb));all_goals(fail_if_success (change false=false at hb));all_goals(try dsimp only at hb);all_goals(try simp only[hb]);all_goals(first|replace hb:=of_decide_eq_true hb|replace hb:=of_decide_eq_false hb|replace hb:=zao hb|replace hb:=zap hb|replace hb:=eq_of_beq hb|replace hb:=ne_of_beq_false hb|skip);all_goals(try(exfalso;omega)))
  |(apply zan;exact rfl;all_goals intro hb;all_goals(try dsimp only at hb);all_goals(try simp only[hb]);all_goals(first|replace hb:=of_decide_eq_true hb|replace hb:=of_decide_eq_false hb|replace hb:=zao hb|replace hb:=zap hb|replace hb:=eq_of_beq hb|replace hb:=ne_of_beq_false hb|skip);all_goals(try(exfalso;omega))))
 exact zfa (J:=[]) rfl rfl (plr _)
theorem zed (W:World)(h:List zah)(A:Option Addr)(n c:Nat)(cs:List Value)(hr:zaD W h A n 3 cs)(hb:n*24≤140737488355328):
 zaL Tryz.prog W 47 [.slice A n c] h (fun v h'=>∃A' c',v=.slice A' n c'∧h'=.own A' n c' 97 3 cs::h):=by
 refine zaL.drop ?_
 refine zaA Tryz.func47 rfl rfl Tryz.results47 Tryz.ntmps47 rfl rfl ?_
 refine zaO hr rfl (fun hA=> ?_)
 cases A with
 |none=>
  have hn:n=0:=by
   rcases Nat.eq_zero_or_pos n with h|h
   ·exact h
   ·have:=hA h;simp at this
  subst hn
  have hcs:cs=[]:=List.eq_nil_of_length_eq_zero (by simpa using hr.len)
  subst hcs
  refine zbG (fun w hw=>⟨_,hw.own_nil 97 3,?_⟩)
  repeat' (first
   |apply zaz|apply zaa|apply zay|apply zal|apply zam|apply zae|apply zaw
   |(apply zai hT;(iterate 4 exact rfl))|(apply zaj;(iterate 3 exact rfl))|(apply zad;(iterate 2 exact rfl))
   |(apply zax hT;(iterate 4 exact rfl);(iterate 2 (first|omega|(dsimp only;omega))))
   |(apply zar [] [] hmix;decide+kernel)
   |(apply zab;(iterate 5 exact rfl);first|(apply zas hT;exact rfl;exact rfl;(repeat(first|exact List.mem_cons_self|apply List.mem_cons_of_mem));exact rfl;exact rfl)|(apply zaq hT;exact rfl;exact rfl;(repeat(first|exact List.mem_cons_self|apply List.mem_cons_of_mem));exact rfl))
   |(apply zau;(iterate 5 exact rfl);intro _)|(apply zac hT;(iterate 5 exact rfl);intro _)
   |(apply zaf;(iterate 2 exact rfl))|(apply zag;(iterate 2 exact rfl))
   |(apply zak;exact rfl;all_goals intro hb;all_goals(fail_if_success (change true=true at hb));all_goals(fail_if_success (change false=false at hb));all_goals(try dsimp only at hb);all_goals(try simp only[hb]);all_goals(first|replace hb:=of_decide_eq_true hb|replace hb:=of_decide_eq_false hb|replace hb:=zao hb|replace hb:=zap hb|replace hb:=eq_of_beq hb|replace hb:=ne_of_beq_false hb|skip);all_goals(try(exfalso;omega)))
   |(apply zan;exact rfl;all_goals intro hb;all_goals(try dsimp only at hb);all_goals(try simp only[hb]);all_goals(first|replace hb:=of_decide_eq_true hb|replace hb:=of_decide_eq_false hb|replace hb:=zao hb|replace hb:=zap hb|replace hb:=eq_of_beq hb|replace hb:=ne_of_beq_false hb|skip);all_goals(try(exfalso;omega))))
  apply ret1;exact rfl
  exact⟨[],_,plr _,none,0,rfl,rfl⟩
 |some ad=>
  repeat' (first
   |apply zaz|apply zaa|apply zay|apply zal|apply zam|apply zae|apply zaw
   |(apply zai hT;(iterate 4 exact rfl))|(apply zaj;(iterate 3 exact rfl))|(apply zad;(iterate 2 exact rfl))
   |(apply zax hT;(iterate 4 exact rfl);(iterate 2 (first|omega|(dsimp only;omega))))
   |(apply zar [] [] hmix;decide+kernel)
   |(apply zaI hT;(iterate 12 exact rfl);intro g1)
   |(apply za2 hT;(iterate 10 exact rfl);exact sel0;exact hr.cons;omega;(show(0+n)*24≤_;omega);intro A' c')
   |(apply zab;(iterate 5 exact rfl);first|(apply zas hT;exact rfl;exact rfl;(repeat(first|exact List.mem_cons_self|apply List.mem_cons_of_mem));exact rfl;exact rfl)|(apply zaq hT;exact rfl;exact rfl;(repeat(first|exact List.mem_cons_self|apply List.mem_cons_of_mem));exact rfl))
   |(apply zau;(iterate 5 exact rfl);intro _)|(apply zac hT;(iterate 5 exact rfl);intro _)
   |(apply zaf;(iterate 2 exact rfl))|(apply zag;(iterate 2 exact rfl))
   |(apply zak;exact rfl;all_goals intro hb;all_goals(fail_if_success (change true=true at hb));all_goals(fail_if_success (change false=false at hb));all_goals(try dsimp only at hb);all_goals(try simp only[hb]);all_goals(first|replace hb:=of_decide_eq_true hb|replace hb:=of_decide_eq_false hb|replace hb:=zao hb|replace hb:=zap hb|replace hb:=eq_of_beq hb|replace hb:=ne_of_beq_false hb|skip);all_goals(try(exfalso;omega)))
   |(apply zan;exact rfl;all_goals intro hb;all_goals(try dsimp only at hb);all_goals(try simp only[hb]);all_goals(first|replace hb:=of_decide_eq_true hb|replace hb:=of_decide_eq_false hb|replace hb:=zao hb|replace hb:=zap hb|replace hb:=eq_of_beq hb|replace hb:=ne_of_beq_false hb|skip);all_goals(try(exfalso;omega))))
  apply ret1;exact rfl
  refine⟨[],_,plr _,A',c',by rw[Nat.zero_add],?_⟩
  show zah.own A' (0+n) c' 97 3 ([]++cs)::h=_
  simp
end Go.Proofs.YteocfhdocpeokaaGreat
set_option linter.unusedSimpArgs false
set_option linter.unusedVariables false
namespace Go.Proofs.YteocfhdocpeokaaGreat
open Go Go.Sl
attribute [local irreducible] AW ES EP Ld RetQ
set_option maxRecDepth 100000
theorem zlf (W:World)(n a b:Int):zaF Tryz.prog W 131 [.int .i64 n,.int .i64 a,.int .i64 b] [] (.bool (inB n a b)):=by
 refine zaF.ofD (fun h' hs=> ?_)
 refine zaA Tryz.func131 rfl rfl Tryz.results131 Tryz.ntmps131 rfl rfl ?_
 repeat' (first
  |apply zaz|apply zaa|apply zay|apply zal|apply zam|apply zae|apply zaw
  |(apply zai hT;(iterate 4 exact rfl))|(apply zaj;(iterate 3 exact rfl))|(apply zad;(iterate 2 exact rfl))
  |(apply zax hT;(iterate 4 exact rfl);(iterate 2 (first|omega|(dsimp only;omega))))
  |(apply zar [] [] hmix;decide+kernel)
  |(apply zab;(iterate 5 exact rfl);first|(apply zas hT;exact rfl;exact rfl;(repeat(first|exact List.mem_cons_self|apply List.mem_cons_of_mem));exact rfl;exact rfl)|(apply zaq hT;exact rfl;exact rfl;(repeat(first|exact List.mem_cons_self|apply List.mem_cons_of_mem));exact rfl))
  |(apply zau;(iterate 5 exact rfl);intro _)|(apply zac hT;(iterate 5 exact rfl);intro _)
  |(apply zaf;(iterate 2 exact rfl))|(apply zag;(iterate 2 exact rfl))
  |(apply zak;exact rfl;all_goals intro hb;all_goals(fail_if_success (change true=true at hb));all_goals(fail_if_success (change false=false at hb));all_goals(try dsimp only at hb);all_goals(try simp only[hb]);all_goals(first|replace hb:=of_decide_eq_true hb|replace hb:=of_decide_eq_false hb|replace hb:=zao hb|replace hb:=zap hb|replace hb:=eq_of_beq hb|replace hb:=ne_of_beq_false hb|skip);all_goals(try(exfalso;omega)))
  |(apply zan;exact rfl;all_goals intro hb;all_goals(try dsimp only at hb);all_goals(try simp only[hb]);all_goals(first|replace hb:=of_decide_eq_true hb|replace hb:=of_decide_eq_false hb|replace hb:=zao hb|replace hb:=zap hb|replace hb:=eq_of_beq hb|replace hb:=ne_of_beq_false hb|skip);all_goals(try(exfalso;omega))))
 all_goals(apply ret1;exact rfl;exact⟨by(first|(simp_all [inB];done)|(simp[inB];omega)),zbJ⟩)
theorem ziN (W:World)(n a b:Int):zaF Tryz.prog W 88 [.int .i64 n,.int .i64 a,.int .i64 b] [] (.bool (inB n a b)):=by
 refine zaF.ofD (fun h' hs=> ?_)
 refine zaA Tryz.func88 rfl rfl Tryz.results88 Tryz.ntmps88 rfl rfl ?_
 repeat' (first
  |apply zaz|apply zaa|apply zay|apply zal|apply zam|apply zae|apply zaw
  |(apply zai hT;(iterate 4 exact rfl))|(apply zaj;(iterate 3 exact rfl))|(apply zad;(iterate 2 exact rfl))
  |(apply zax hT;(iterate 4 exact rfl);(iterate 2 (first|omega|(dsimp only;omega))))
  |(apply zar [] [] hmix;decide+kernel)
  |(apply zab;(iterate 5 exact rfl);first|(apply zas hT;exact rfl;exact rfl;(repeat(first|exact List.mem_cons_self|apply List.mem_cons_of_mem));exact rfl;exact rfl)|(apply zaq hT;exact rfl;exact rfl;(repeat(first|exact List.mem_cons_self|apply List.mem_cons_of_mem));exact rfl))
  |(apply zau;(iterate 5 exact rfl);intro _)|(apply zac hT;(iterate 5 exact rfl);intro _)
  |(apply zaf;(iterate 2 exact rfl))|(apply zag;(iterate 2 exact rfl))
  |(apply zak;exact rfl;all_goals intro hb;all_goals(fail_if_success (change true=true at hb));all_goals(fail_if_success (change false=false at hb));all_goals(try dsimp only at hb);all_goals(try simp only[hb]);all_goals(first|replace hb:=of_decide_eq_true hb|replace hb:=of_decide_eq_false hb|replace hb:=zao hb|replace hb:=zap hb|replace hb:=eq_of_beq hb|replace hb:=ne_of_beq_false hb|skip);all_goals(try(exfalso;omega)))
  |(apply zan;exact rfl;all_goals intro hb;all_goals(try dsimp only at hb);all_goals(try simp only[hb]);all_goals(first|replace hb:=of_decide_eq_true hb|replace hb:=of_decide_eq_false hb|replace hb:=zao hb|replace hb:=zap hb|replace hb:=eq_of_beq hb|replace hb:=ne_of_beq_false hb|skip);all_goals(try(exfalso;omega))))
 all_goals(apply ret1;exact rfl;exact⟨by(first|(simp_all [inB];done)|(simp[inB];omega)),zbJ⟩)
theorem zlg (W:World)(b:za1):zaF Tryz.prog W 90 [.agg b.enc.toArray] [] (.bool (zdB b)):=by
 refine zaF.ofD (fun h' hs=> ?_)
 refine zaA Tryz.func90 rfl rfl Tryz.results90 Tryz.ntmps90 rfl rfl ?_
 repeat' (first
  |apply zaz|apply zaa|apply zay|apply zal|apply zam|apply zae|apply zaw
  |(apply zai hT;(iterate 4 exact rfl))|(apply zaj;(iterate 3 exact rfl))|(apply zad;(iterate 2 exact rfl))
  |(apply zax hT;(iterate 4 exact rfl);(iterate 2 (first|omega|(dsimp only;omega))))
  |(apply zar [] [] hmix;decide+kernel)
  |(apply zin;(iterate 5 exact rfl);(have z1:=zcV ‹inB b.lot 1 1000000=true›;have z2:=zcV ‹inB b.max b.min 1000000=true›;have z3:=zcV ‹inB b.min 1 1000000=true›;omega);(have z1:=zcV ‹inB b.lot 1 1000000=true›;omega))
  |(apply zax hT;(iterate 4 exact rfl);(iterate 2 (have z1:=zcV ‹inB b.lot 1 1000000=true›;have z2:=zcV ‹inB b.max b.min 1000000=true›;have z3:=zcV ‹inB b.min 1 1000000=true›;have z4:=Int.emod_nonneg b.max (show b.lot≠0 by omega);have z5:=Int.emod_lt_of_pos b.max (show 0<b.lot by omega);omega)))
  |(apply zaC (hs:=((zlf W _ _ _).mono (by simp)));(iterate 7 exact rfl))
  |(apply zab;(iterate 5 exact rfl);first|(apply zas hT;exact rfl;exact rfl;(repeat(first|exact List.mem_cons_self|apply List.mem_cons_of_mem));exact rfl;exact rfl)|(apply zaq hT;exact rfl;exact rfl;(repeat(first|exact List.mem_cons_self|apply List.mem_cons_of_mem));exact rfl))
  |(apply zau;(iterate 5 exact rfl);intro _)|(apply zac hT;(iterate 5 exact rfl);intro _)
  |(apply zaf;(iterate 2 exact rfl))|(apply zag;(iterate 2 exact rfl))
  |(apply zak;exact rfl;all_goals intro hb;all_goals(fail_if_success (change true=true at hb));all_goals(fail_if_success (change false=false at hb));all_goals(try dsimp only at hb);all_goals(try simp only[hb]);all_goals(first|replace hb:=of_decide_eq_true hb|replace hb:=of_decide_eq_false hb|replace hb:=zao hb|replace hb:=zap hb|replace hb:=eq_of_beq hb|replace hb:=ne_of_beq_false hb|skip);all_goals(try(exfalso;omega)))
  |(apply zan;exact rfl;all_goals intro hb;all_goals(try dsimp only at hb);all_goals(try simp only[hb]);all_goals(first|replace hb:=of_decide_eq_true hb|replace hb:=of_decide_eq_false hb|replace hb:=zao hb|replace hb:=zap hb|replace hb:=eq_of_beq hb|replace hb:=ne_of_beq_false hb|skip);all_goals(try(exfalso;omega))))
 all_goals first
  |(apply ret1;exact rfl;exact⟨by simp_all [zdB],zcp zbJ⟩)
  |skip
theorem zj3 (W:World)(b:za1):zaF Tryz.prog W 89 [.agg b.enc.toArray] [] (.bool (!zdB b)):=by
 refine zaF.ofD (fun h' hs=> ?_)
 refine zaA Tryz.func89 rfl rfl Tryz.results89 Tryz.ntmps89 rfl rfl ?_
 repeat' (first
  |apply zaz|apply zaa|apply zay|apply zal|apply zam|apply zae|apply zaw
  |(apply zai hT;(iterate 4 exact rfl))|(apply zaj;(iterate 3 exact rfl))|(apply zad;(iterate 2 exact rfl))
  |(apply zax hT;(iterate 4 exact rfl);(iterate 2 (first|omega|(dsimp only;omega))))
  |(apply zar [] [] hmix;decide+kernel)
  |(apply zaC (hs:=((zlg W b).mono (by simp)));(iterate 7 exact rfl))
  |(apply zab;(iterate 5 exact rfl);first|(apply zas hT;exact rfl;exact rfl;(repeat(first|exact List.mem_cons_self|apply List.mem_cons_of_mem));exact rfl;exact rfl)|(apply zaq hT;exact rfl;exact rfl;(repeat(first|exact List.mem_cons_self|apply List.mem_cons_of_mem));exact rfl))
  |(apply zau;(iterate 5 exact rfl);intro _)|(apply zac hT;(iterate 5 exact rfl);intro _)
  |(apply zaf;(iterate 2 exact rfl))|(apply zag;(iterate 2 exact rfl))
  |(apply zak;exact rfl;all_goals intro hb;all_goals(fail_if_success (change true=true at hb));all_goals(fail_if_success (change false=false at hb));all_goals(try dsimp only at hb);all_goals(try simp only[hb]);all_goals(first|replace hb:=of_decide_eq_true hb|replace hb:=of_decide_eq_false hb|replace hb:=zao hb|replace hb:=zap hb|replace hb:=eq_of_beq hb|replace hb:=ne_of_beq_false hb|skip);all_goals(try(exfalso;omega)))
  |(apply zan;exact rfl;all_goals intro hb;all_goals(try dsimp only at hb);all_goals(try simp only[hb]);all_goals(first|replace hb:=of_decide_eq_true hb|replace hb:=of_decide_eq_false hb|replace hb:=zao hb|replace hb:=zap hb|replace hb:=eq_of_beq hb|replace hb:=ne_of_beq_false hb|skip);all_goals(try(exfalso;omega))))
 all_goals(apply ret1;exact rfl;exact⟨rfl,dX⟩)
theorem zfJ (W:World)(h:List zah)(A:Option Addr)(c:Nat)(l:List zaJ)(hr:zaD W h A l.length 3 (l.flatMap zaJ.enc))(hb:l.length≤8):
 zaF Tryz.prog W 91 [.slice A l.length c] h (.int .u64 (zbP l l.length)):=by
 refine zaF.ofD (fun h' hs=> ?_)
 have hr':=hr.mono hs
 refine zaA Tryz.func91 rfl rfl Tryz.results91 Tryz.ntmps91 rfl rfl ?_
 refine zaO hr' rfl (fun hA=> ?_)
 repeat' (first
  |apply zaz|apply zaa|apply zay|apply zal|apply zam|apply zae|apply zaw
  |(apply zai hT;(iterate 4 exact rfl))|(apply zaj;(iterate 3 exact rfl))|(apply zad;(iterate 2 exact rfl))
  |(apply zax hT;(iterate 4 exact rfl);(iterate 2 (first|omega|(dsimp only;omega))))
  |(apply zar [] [] hmix;decide+kernel)
  |(apply zab;(iterate 5 exact rfl);first|(apply zas hT;exact rfl;exact rfl;(repeat(first|exact List.mem_cons_self|apply List.mem_cons_of_mem));exact rfl;exact rfl)|(apply zaq hT;exact rfl;exact rfl;(repeat(first|exact List.mem_cons_self|apply List.mem_cons_of_mem));exact rfl))
  |(apply zau;(iterate 5 exact rfl);intro _)|(apply zac hT;(iterate 5 exact rfl);intro _)
  |(apply zaf;(iterate 2 exact rfl))|(apply zag;(iterate 2 exact rfl))
  |(apply zak;exact rfl;all_goals intro hb;all_goals(fail_if_success (change true=true at hb));all_goals(fail_if_success (change false=false at hb));all_goals(try dsimp only at hb);all_goals(try simp only[hb]);all_goals(first|replace hb:=of_decide_eq_true hb|replace hb:=of_decide_eq_false hb|replace hb:=zao hb|replace hb:=zap hb|replace hb:=eq_of_beq hb|replace hb:=ne_of_beq_false hb|skip);all_goals(try(exfalso;omega)))
  |(apply zan;exact rfl;all_goals intro hb;all_goals(try dsimp only at hb);all_goals(try simp only[hb]);all_goals(first|replace hb:=of_decide_eq_true hb|replace hb:=of_decide_eq_false hb|replace hb:=zao hb|replace hb:=zap hb|replace hb:=eq_of_beq hb|replace hb:=ne_of_beq_false hb|skip);all_goals(try(exfalso;omega))))
 refine zaX (α:=Nat) (E:=fun k=>[(3,.int .u64 (zbP l k)),(6,.slice A l.length c),(7,.int .i64 l.length),(8,.int .i64 k)]) (H:=fun _=>h') (μ:=fun k=>l.length - k)
  (S:=fun k=>k≤l.length) 0 (Nat.zero_le _) ⟨rfl,rfl,rfl,rfl,trivial⟩ dX ?_
 intro k hk
 by_cases hlt:k<l.length
 ·obtain⟨x,hx⟩:∃x,l[k]? =some x:=⟨l[k]'(by omega),gge (by omega)⟩
  have hx2:l[(k:Int).toNat]? =some x:=by simpa using hx
  have hA':=hA (by omega)
  have hd1:decide ((k:Int)<(l.length:Int))=true:=by simp;omega
  have hst:=zgq hx
  have hor:=zlP (zfC l k) (show k<64 by omega)
  repeat' (first
   |apply zaz|apply zaa|apply zay|apply zal|apply zam|apply zae|apply zaw
   |(apply zai hT;(iterate 4 exact rfl))|(apply zaj;(iterate 3 exact rfl))|(apply zad;(iterate 2 exact rfl))
   |(apply zax hT;(iterate 4 exact rfl);(iterate 2 (first|omega|(dsimp only;omega))))
   |(apply zar [] [] hmix;decide+kernel)
   |(apply zaU hT;(iterate 8 exact rfl);(iterate 2 omega);exact hA')
   |(apply zab;(iterate 5 exact rfl);exact zaY hT rfl rfl (hr'.mono (by intro c hc;first|exact hc|exact List.mem_cons_of_mem _ hc)) zaJ.enc_len rfl hx2 rfl)
   |(apply zaP hT;(iterate 6 exact rfl);exact sX;(iterate 3 exact rfl);exact Nat.le_of_ble_eq_true rfl)
   |(apply zlO;(iterate 5 exact rfl);omega)
   |(apply zgp;(iterate 6 exact rfl))
   |(apply zab;(iterate 5 exact rfl);first|(apply zas hT;exact rfl;exact rfl;(repeat(first|exact List.mem_cons_self|apply List.mem_cons_of_mem));exact rfl;exact rfl)|(apply zaq hT;exact rfl;exact rfl;(repeat(first|exact List.mem_cons_self|apply List.mem_cons_of_mem));exact rfl))
   |(apply zau;(iterate 5 exact rfl);intro _)|(apply zac hT;(iterate 5 exact rfl);intro _)
   |(apply zaf;(iterate 2 exact rfl))|(apply zag;(iterate 2 exact rfl))
   |(apply zak;exact rfl;all_goals intro hb;all_goals(fail_if_success (change true=true at hb));all_goals(fail_if_success (change false=false at hb));all_goals(try dsimp only at hb);all_goals(try simp only[hb]);all_goals(first|replace hb:=of_decide_eq_true hb|replace hb:=of_decide_eq_false hb|replace hb:=zao hb|replace hb:=zap hb|replace hb:=eq_of_beq hb|replace hb:=ne_of_beq_false hb|skip);all_goals(try(exfalso;omega)))
   |(apply zan;exact rfl;all_goals intro hb;all_goals(try dsimp only at hb);all_goals(try simp only[hb]);all_goals(first|replace hb:=of_decide_eq_true hb|replace hb:=of_decide_eq_false hb|replace hb:=zao hb|replace hb:=zap hb|replace hb:=eq_of_beq hb|replace hb:=ne_of_beq_false hb|skip);all_goals(try(exfalso;omega))))
  all_goals first
   |(exfalso;omega)
   |exact zaM (k+1) (by(try dsimp only);omega) (by(try dsimp only);omega) ⟨by(try dsimp only);rw[hst,if_pos ‹_›,←hor];rfl,rfl,rfl,rfl,trivial⟩ dX
   |exact zaM (k+1) (by(try dsimp only);omega) (by(try dsimp only);omega) ⟨by(try dsimp only);rw[hst,if_neg ‹_›];rfl,rfl,rfl,rfl,trivial⟩ dX
   |skip
 ·obtain rfl:k=l.length:=by omega
  have hd1:decide ((l.length:Int)<(l.length:Int))=false:=by simp
  repeat' (first
   |apply zaz|apply zaa|apply zay|apply zal|apply zam|apply zae|apply zaw
   |(apply zai hT;(iterate 4 exact rfl))|(apply zaj;(iterate 3 exact rfl))|(apply zad;(iterate 2 exact rfl))
   |(apply zax hT;(iterate 4 exact rfl);(iterate 2 (first|omega|(dsimp only;omega))))
   |(apply zar [] [] hmix;decide+kernel)
   |(apply zab;(iterate 5 exact rfl);first|(apply zas hT;exact rfl;exact rfl;(repeat(first|exact List.mem_cons_self|apply List.mem_cons_of_mem));exact rfl;exact rfl)|(apply zaq hT;exact rfl;exact rfl;(repeat(first|exact List.mem_cons_self|apply List.mem_cons_of_mem));exact rfl))
   |(apply zau;(iterate 5 exact rfl);intro _)|(apply zac hT;(iterate 5 exact rfl);intro _)
   |(apply zaf;(iterate 2 exact rfl))|(apply zag;(iterate 2 exact rfl))
   |(apply zak;exact rfl;all_goals intro hb;all_goals(fail_if_success (change true=true at hb));all_goals(fail_if_success (change false=false at hb));all_goals(try dsimp only at hb);all_goals(try simp only[hb]);all_goals(first|replace hb:=of_decide_eq_true hb|replace hb:=of_decide_eq_false hb|replace hb:=zao hb|replace hb:=zap hb|replace hb:=eq_of_beq hb|replace hb:=ne_of_beq_false hb|skip);all_goals(try(exfalso;omega)))
   |(apply zan;exact rfl;all_goals intro hb;all_goals(try dsimp only at hb);all_goals(try simp only[hb]);all_goals(first|replace hb:=of_decide_eq_true hb|replace hb:=of_decide_eq_false hb|replace hb:=zao hb|replace hb:=zap hb|replace hb:=eq_of_beq hb|replace hb:=ne_of_beq_false hb|skip);all_goals(try(exfalso;omega))))
  all_goals first
   |(exfalso;omega)
   |(apply ret1;exact rfl;exact⟨rfl,dX⟩)
theorem zfK (W:World)(p:zaJ)(all:Int):zaF Tryz.prog W 93 [.agg p.enc.toArray,.int .u64 all] [] (.bool (zcq p all)):=by
 refine zaF.ofD (fun h' hs=> ?_)
 refine zaA Tryz.func93 rfl rfl Tryz.results93 Tryz.ntmps93 rfl rfl ?_
 repeat' (first
  |apply zaz|apply zaa|apply zay|apply zal|apply zam|apply zae|apply zaw
  |(apply zai hT;(iterate 4 exact rfl))|(apply zaj;(iterate 3 exact rfl))|(apply zad;(iterate 2 exact rfl))
  |(apply zax hT;(iterate 4 exact rfl);(iterate 2 (first|omega|(dsimp only;omega))))
  |(apply zar [] [] hmix;decide+kernel)
  |(apply zgp;(iterate 6 exact rfl))
  |(apply zaC (hs:=((ziN W _ _ _).mono (by simp)));(iterate 7 exact rfl))
  |(apply zab;(iterate 5 exact rfl);first|(apply zas hT;exact rfl;exact rfl;(repeat(first|exact List.mem_cons_self|apply List.mem_cons_of_mem));exact rfl;exact rfl)|(apply zaq hT;exact rfl;exact rfl;(repeat(first|exact List.mem_cons_self|apply List.mem_cons_of_mem));exact rfl))
  |(apply zau;(iterate 5 exact rfl);intro _)|(apply zac hT;(iterate 5 exact rfl);intro _)
  |(apply zaf;(iterate 2 exact rfl))|(apply zag;(iterate 2 exact rfl))
  |(apply zak;exact rfl;all_goals intro hb;all_goals(fail_if_success (change true=true at hb));all_goals(fail_if_success (change false=false at hb));all_goals(try dsimp only at hb);all_goals(try simp only[hb]);all_goals(first|replace hb:=of_decide_eq_true hb|replace hb:=of_decide_eq_false hb|replace hb:=zao hb|replace hb:=zap hb|replace hb:=eq_of_beq hb|replace hb:=ne_of_beq_false hb|skip);all_goals(try(exfalso;omega)))
  |(apply zan;exact rfl;all_goals intro hb;all_goals(try dsimp only at hb);all_goals(try simp only[hb]);all_goals(first|replace hb:=of_decide_eq_true hb|replace hb:=of_decide_eq_false hb|replace hb:=zao hb|replace hb:=zap hb|replace hb:=eq_of_beq hb|replace hb:=ne_of_beq_false hb|skip);all_goals(try(exfalso;omega))))
 all_goals first
  |(apply ret1;exact rfl;exact⟨by simp_all [zcq],dX⟩)
  |skip
theorem zj4 (W:World)(p:zaJ)(all:Int)(g:Nat):zaF Tryz.prog W 92 [.agg p.enc.toArray,.pointer (some ⟨g,0,none⟩)] [.blk g 73 [.int .u64 all]] (.bool (!zcq p all)):=by
 refine zaF.ofD (fun h' hs=> ?_)
 have m0:=hs _ mem0
 refine zaA Tryz.func92 rfl rfl Tryz.results92 Tryz.ntmps92 rfl rfl ?_
 repeat' (first
  |apply zaz|apply zaa|apply zay|apply zal|apply zam|apply zae|apply zaw
  |(apply zai hT;(iterate 4 exact rfl))|(apply zaj;(iterate 3 exact rfl))|(apply zad;(iterate 2 exact rfl))
  |(apply zax hT;(iterate 4 exact rfl);(iterate 2 (first|omega|(dsimp only;omega))))
  |(apply zar [] [] hmix;decide+kernel)
  |(apply zaC (hs:=((zfK W p all).mono (by simp)));(iterate 7 exact rfl))
  |(apply zab;(iterate 5 exact rfl);first|(apply zas hT;exact rfl;exact rfl;(repeat(first|exact List.mem_cons_self|exact m0|apply List.mem_cons_of_mem));exact rfl;exact rfl)|(apply zaq hT;exact rfl;exact rfl;(repeat(first|exact List.mem_cons_self|exact m0|apply List.mem_cons_of_mem));exact rfl))
  |(apply zau;(iterate 5 exact rfl);intro _)|(apply zac hT;(iterate 5 exact rfl);intro _)
  |(apply zaf;(iterate 2 exact rfl))|(apply zag;(iterate 2 exact rfl))
  |(apply zak;exact rfl;all_goals intro hb;all_goals(fail_if_success (change true=true at hb));all_goals(fail_if_success (change false=false at hb));all_goals(try dsimp only at hb);all_goals(try simp only[hb]);all_goals(first|replace hb:=of_decide_eq_true hb|replace hb:=of_decide_eq_false hb|replace hb:=zao hb|replace hb:=zap hb|replace hb:=eq_of_beq hb|replace hb:=ne_of_beq_false hb|skip);all_goals(try(exfalso;omega)))
  |(apply zan;exact rfl;all_goals intro hb;all_goals(try dsimp only at hb);all_goals(try simp only[hb]);all_goals(first|replace hb:=of_decide_eq_true hb|replace hb:=of_decide_eq_false hb|replace hb:=zao hb|replace hb:=zap hb|replace hb:=eq_of_beq hb|replace hb:=ne_of_beq_false hb|skip);all_goals(try(exfalso;omega))))
 all_goals(apply ret1;exact rfl;exact⟨rfl,dX⟩)
end Go.Proofs.YteocfhdocpeokaaGreat
set_option linter.unusedSimpArgs false
set_option linter.unusedVariables false
namespace Go.Proofs.YteocfhdocpeokaaGreat
open Go Go.Sl
attribute [local irreducible] AW ES EP Ld RetQ
set_option maxRecDepth 100000
theorem ziO {α:Type}{q:α→Bool}{l:List α}:decide (za0 (fun x=> !q x) l≥0)= !(l.all q):=by
 by_cases h:l.all q=true
 ·rw[h]
  have:za0 (fun x=> !q x) l<0:=zbt.2 (fun x hx=>by simp[List.all_eq_true.1 h x hx])
  simp;omega
 ·have:¬za0 (fun x=> !q x) l<0:=fun hn=>h (List.all_eq_true.2 (fun x hx=>by simpa using zbt.1 hn x hx))
  rw[decide_eq_true (by omega),Bool.eq_false_iff.2 h];rfl
def zee (AB:Option Addr)(nb cB:Nat)(AP:Option Addr)(np cP:Nat)(look beat:Int):Value:=.agg #[.slice AB nb cB,.slice AP np cP,.int .i64 look,.int .i64 beat]
theorem ziP (W:World)(h:List zah)(AB:Option Addr)(cB:Nat)(bs:List za1)(AP:Option Addr)(cP:Nat)(ps:List zaJ)(look beat:Int)(hrB:zaD W h AB bs.length 7 (bs.flatMap za1.enc))(hrP:zaD W h AP ps.length 3 (ps.flatMap zaJ.enc))(hb:bs.length≤1000000)(hp:ps.length≤1000000):
 zaF Tryz.prog W 56 [zee AB bs.length cB AP ps.length cP look beat] h (.bool (isR bs ps look beat)):=by
 refine zaF.ofD (fun h' hs=> ?_)
 have hcb:∀k,(∀c∈h',c∈k)→zaF Tryz.prog W 94 [.slice AB bs.length cB,.func (.func 89) #[] #[]] k (.bool (!bs.all zdB)):=fun k hk=>
  (zdw W k AB bs.length cB bs rfl ((hrB.mono hs).mono hk) 89 [] (fun x=> !zdB x) (fun x _=>(zj3 W x).mono (by simp)) (by omega)).cast (by rw[ziO])
 have hcp:∀g k,(∀c∈h',c∈k)→zah.blk g 73 [.int .u64 (zbP ps ps.length)]∈k→zaF Tryz.prog W 95 [.slice AP ps.length cP,.func (.func 92) #[] #[.pointer (some ⟨g,0,none⟩)]] k (.bool (!ps.all (fun p=>zcq p (zbP ps ps.length)))):=fun g k hk hm=>
  (zdc W k AP ps.length cP ps rfl ((hrP.mono hs).mono hk) 92 [.pointer (some ⟨g,0,none⟩)] (fun x=> !zcq x (zbP ps ps.length)) (fun x _=>(zj4 W x _ g).mono (by simpa using hm)) (by omega)).cast (by rw[ziO])
 have hdl:=fun k hk (hl:ps.length≤8)=>zfJ W k AP cP ps ((hrP.mono hs).mono hk) hl
 generalize ha:bs.all zdB=a at hcb
 generalize hbb:(ps.all fun p=>zcq p (zbP ps ps.length))=b at hcp
 refine zaA Tryz.func56 rfl rfl Tryz.results56 Tryz.ntmps56 rfl rfl ?_
 repeat' (first
  |apply zaz|apply zaa|apply zay|apply zal|apply zam|apply zae|apply zaw
  |(apply zai hT;(iterate 4 exact rfl))|(apply zaj;(iterate 3 exact rfl))|(apply zad;(iterate 2 exact rfl))
  |(apply zax hT;(iterate 4 exact rfl);(iterate 2 (first|omega|(dsimp only;omega))))
  |(apply zar [] [] hmix;decide+kernel)
  |(apply zaC (hs:=((ziN W _ _ _).mono (by simp)));(iterate 7 exact rfl))
  |(apply zaC (hs:=(hdl _ (by(first|exact fun _ h=>h|exact fun _ h=>.tail _ h|exact fun _ h=>.tail _ (.tail _ h)|exact fun _ h=>.tail _ (.tail _ (.tail _ h))|exact fun _ h=>.tail _ (.tail _ (.tail _ (.tail _ h))))) (by have:=zcV (show inB (ps.length:Int) 1 8=true by simpa using ‹(!inB (ps.length:Int) 1 8)=false›);omega)));(iterate 7 exact rfl))
  |(apply zac hT;(iterate 5 exact rfl);first|((fail_if_success (have q:=g4));intro g4)|intro _)
  |(apply zaP hT;(iterate 6 exact rfl);exact sX;(iterate 3 exact rfl);exact Nat.le_of_ble_eq_true rfl)
  |(apply zaC (hs:=(hcb _ (by(first|exact fun _ h=>h|exact fun _ h=>.tail _ h|exact fun _ h=>.tail _ (.tail _ h)|exact fun _ h=>.tail _ (.tail _ (.tail _ h))|exact fun _ h=>.tail _ (.tail _ (.tail _ (.tail _ h)))))));(iterate 7 exact rfl))
  |(apply zaC (hs:=(hcp g4 _ (by(first|exact fun _ h=>h|exact fun _ h=>.tail _ h|exact fun _ h=>.tail _ (.tail _ h)|exact fun _ h=>.tail _ (.tail _ (.tail _ h))|exact fun _ h=>.tail _ (.tail _ (.tail _ (.tail _ h))))) (by(repeat(first|exact List.mem_cons_self|apply List.mem_cons_of_mem)))));(iterate 7 exact rfl))
  |(apply zab;(iterate 5 exact rfl);first|(apply zas hT;exact rfl;exact rfl;(repeat(first|exact List.mem_cons_self|apply List.mem_cons_of_mem));exact rfl;exact rfl)|(apply zaq hT;exact rfl;exact rfl;(repeat(first|exact List.mem_cons_self|apply List.mem_cons_of_mem));exact rfl))
  |(apply zau;(iterate 5 exact rfl);intro _)|(apply zac hT;(iterate 5 exact rfl);intro _)
  |(apply zaf;(iterate 2 exact rfl))|(apply zag;(iterate 2 exact rfl))
  |(apply zak;exact rfl;all_goals intro hb;all_goals(fail_if_success (change true=true at hb));all_goals(fail_if_success (change false=false at hb));all_goals(try dsimp only at hb);all_goals(try simp only[hb]);all_goals(first|replace hb:=of_decide_eq_true hb|replace hb:=of_decide_eq_false hb|replace hb:=zao hb|replace hb:=zap hb|replace hb:=eq_of_beq hb|replace hb:=ne_of_beq_false hb|skip);all_goals(try(exfalso;omega)))
  |(apply zan;exact rfl;all_goals intro hb;all_goals(try dsimp only at hb);all_goals(try simp only[hb]);all_goals(first|replace hb:=of_decide_eq_true hb|replace hb:=of_decide_eq_false hb|replace hb:=zao hb|replace hb:=zap hb|replace hb:=eq_of_beq hb|replace hb:=ne_of_beq_false hb|skip);all_goals(try(exfalso;omega))))
 all_goals first
  |(apply ret1;exact rfl;exact⟨by unfold isR;rw[ha,hbb];clear ha hbb hcb hcp hdl hrB hrP;simp_all,dX⟩)
  |skip
def zef (p:Nat)(A:Option Addr)(c:Nat)(U:Option Addr)(u:Nat)(ps:List zaJ)(used:List Int)(F:List zah):List zah:=
 .blk p 139 [.slice A ps.length c,.slice U ps.length u]::.own A ps.length c 97 3 (ps.flatMap zaJ.enc)::.own U ps.length u 2 1 (used.map (Value.int .i64))::F
theorem zj5 (W:World)(h:List zah)(AB:Option Addr)(cB:Nat)(bs:List za1)(AP:Option Addr)(cP:Nat)(ps:List zaJ)(look beat:Int)(hrB:zaD W h AB bs.length 7 (bs.flatMap za1.enc))(hrP:zaD W h AP ps.length 3 (ps.flatMap zaJ.enc))(hb:bs.length≤1000000)(hp:ps.length≤1000000):
 zaL Tryz.prog W 45 [zee AB bs.length cB AP ps.length cP look beat] h
  (fun v h'=>(isR bs ps look beat=false∧v=.pointer none∧h'=h)∨(isR bs ps look beat=true∧∃p A c U u,v=.pointer (some ⟨p,0,none⟩)∧h'=zef p A c U u ps (List.replicate ps.length 0) h)):=by
 refine zaL.dropTo ?_
 have hI:=ziP W h AB cB bs AP cP ps look beat hrB hrP hb hp
 have hcl:=fun k (hk:∀c∈h,c∈k)=>zed W k AP ps.length cP (ps.flatMap zaJ.enc) (hrP.mono hk) (by omega)
 refine zaA Tryz.func45 rfl rfl Tryz.results45 Tryz.ntmps45 rfl rfl ?_
 cases hR:isR bs ps look beat
 ·rw[hR]at hI
  repeat' (first
   |apply zaz|apply zaa|apply zay|apply zal|apply zam|apply zae|apply zaw
   |(apply zai hT;(iterate 4 exact rfl))|(apply zaj;(iterate 3 exact rfl))|(apply zad;(iterate 2 exact rfl))
   |(apply zax hT;(iterate 4 exact rfl);(iterate 2 (first|omega|(dsimp only;omega))))
   |(apply zar [] [] hmix;decide+kernel)
   |(apply zaC (hs:=(hI.mono (by(first|exact fun _ h=>h|exact fun _ h=>.tail _ h|exact fun _ h=>.tail _ (.tail _ h)|exact fun _ h=>.tail _ (.tail _ (.tail _ h))|exact fun _ h=>.tail _ (.tail _ (.tail _ (.tail _ h)))))));(iterate 7 exact rfl))
   |(apply zab;(iterate 5 exact rfl);first|(apply zas hT;exact rfl;exact rfl;(repeat(first|exact List.mem_cons_self|apply List.mem_cons_of_mem));exact rfl;exact rfl)|(apply zaq hT;exact rfl;exact rfl;(repeat(first|exact List.mem_cons_self|apply List.mem_cons_of_mem));exact rfl))
   |(apply zau;(iterate 5 exact rfl);intro _)|(apply zac hT;(iterate 5 exact rfl);intro _)
   |(apply zaf;(iterate 2 exact rfl))|(apply zag;(iterate 2 exact rfl))
   |(apply zak;exact rfl;all_goals intro hb;all_goals(fail_if_success (change true=true at hb));all_goals(fail_if_success (change false=false at hb));all_goals(try dsimp only at hb);all_goals(try simp only[hb]);all_goals(first|replace hb:=of_decide_eq_true hb|replace hb:=of_decide_eq_false hb|replace hb:=zao hb|replace hb:=zap hb|replace hb:=eq_of_beq hb|replace hb:=ne_of_beq_false hb|skip);all_goals(try(exfalso;omega)))
   |(apply zan;exact rfl;all_goals intro hb;all_goals(try dsimp only at hb);all_goals(try simp only[hb]);all_goals(first|replace hb:=of_decide_eq_true hb|replace hb:=of_decide_eq_false hb|replace hb:=zao hb|replace hb:=zap hb|replace hb:=eq_of_beq hb|replace hb:=ne_of_beq_false hb|skip);all_goals(try(exfalso;omega))))
  all_goals(apply ret1;exact rfl;exact⟨h,dX,.inl ⟨rfl,rfl,rfl⟩⟩)
 ·rw[hR]at hI
  repeat' (first
   |apply zaz|apply zaa|apply zay|apply zal|apply zam|apply zae|apply zaw
   |(apply zai hT;(iterate 4 exact rfl))|(apply zaj;(iterate 3 exact rfl))|(apply zad;(iterate 2 exact rfl))
   |(apply zax hT;(iterate 4 exact rfl);(iterate 2 (first|omega|(dsimp only;omega))))
   |(apply zbj [] [] (.step 0 <| .step 1 <| .step 3 <| .alt (.step 2 <| .step 4 <| .step 5 <| .step 6 <| .step 7 <| .step 8 <| .step 9 <| .nil) ((.step 4 <| .step 5 <| .alt (.step 2 <| .step 6 <| .step 7 <| .step 8 <| .step 9 <| .nil) ((.step 6 <| .step 2 <| .step 7 <| .step 8 <| .step 9 <| .nil))))) hmix;decide+kernel)|apply zbX|apply zbY|(apply zbx;exact rfl)
   |(apply zaC (hs:=(hI.mono (by(first|exact fun _ h=>h|exact fun _ h=>.tail _ h|exact fun _ h=>.tail _ (.tail _ h)|exact fun _ h=>.tail _ (.tail _ (.tail _ h))|exact fun _ h=>.tail _ (.tail _ (.tail _ (.tail _ h)))))));(iterate 7 exact rfl))
   |(apply zaV (hs:=(hcl _ (by(first|exact fun _ h=>h|exact fun _ h=>.tail _ h|exact fun _ h=>.tail _ (.tail _ h)|exact fun _ h=>.tail _ (.tail _ (.tail _ h))|exact fun _ h=>.tail _ (.tail _ (.tail _ (.tail _ h)))))));(iterate 7 exact rfl);rintro _ _ ⟨A1,c1,rfl,rfl⟩)
   |(apply zbL hT;(iterate 12 exact rfl);(iterate 1 exact rfl);omega;exact Nat.le_of_ble_eq_true rfl;intro g12)
   |(apply zaQ hT (cs:=[.slice A1 ps.length c1,.slice (some ⟨g12,0,none⟩) ps.length ps.length]);(iterate 4 exact rfl))
   |(apply zau;(iterate 5 exact rfl);intro g14)
   |(apply zab;(iterate 5 exact rfl);first|(apply zas hT;exact rfl;exact rfl;(repeat(first|exact List.mem_cons_self|apply List.mem_cons_of_mem));exact rfl;exact rfl)|(apply zaq hT;exact rfl;exact rfl;(repeat(first|exact List.mem_cons_self|apply List.mem_cons_of_mem));exact rfl))
   |(apply zau;(iterate 5 exact rfl);intro _)|(apply zac hT;(iterate 5 exact rfl);intro _)
   |(apply zaf;(iterate 2 exact rfl))|(apply zag;(iterate 2 exact rfl))
   |(apply zak;exact rfl;all_goals intro hb;all_goals(fail_if_success (change true=true at hb));all_goals(fail_if_success (change false=false at hb));all_goals(try dsimp only at hb);all_goals(try simp only[hb]);all_goals(first|replace hb:=of_decide_eq_true hb|replace hb:=of_decide_eq_false hb|replace hb:=zao hb|replace hb:=zap hb|replace hb:=eq_of_beq hb|replace hb:=ne_of_beq_false hb|skip);all_goals(try(exfalso;omega)))
   |(apply zan;exact rfl;all_goals intro hb;all_goals(try dsimp only at hb);all_goals(try simp only[hb]);all_goals(first|replace hb:=of_decide_eq_true hb|replace hb:=of_decide_eq_false hb|replace hb:=zao hb|replace hb:=zap hb|replace hb:=eq_of_beq hb|replace hb:=ne_of_beq_false hb|skip);all_goals(try(exfalso;omega))))
  all_goals first
   |(apply ret1;exact rfl;exact⟨zef g14 A1 c1 (some ⟨g12,0,none⟩) ps.length ps (List.replicate ps.length 0) h,by unfold zef;rw[List.map_replicate];exact dX,.inr ⟨rfl,g14,A1,c1,some ⟨g12,0,none⟩,ps.length,rfl,rfl⟩⟩)
   |skip
end Go.Proofs.YteocfhdocpeokaaGreat
