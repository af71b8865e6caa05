/- The statements' walks, and what they stand on, joined into few texts: part 1. Conditions stand in each statement. -/
import Derived.Test.YteocfhdocpeokaaGreatBndU0
set_option maxHeartbeats 16000000
set_option linter.all false
set_option linter.unusedSimpArgs false
set_option linter.unusedVariables false
namespace Go.Proofs.YteocfhdocpeokaaGreat
open Go Go.Sl
attribute [local irreducible] AW ES EP Ld RetQ
set_option maxRecDepth 100000
theorem zcG {x y:zah}{h:List zah}(hx:x∈h)(hy:y∈h):∀c∈[x,y],c∈h:=fun c hc=>by
 rcases List.mem_cons.1 hc with rfl|hc
 ·exact hx
 ·rw[lms.1 hc];exact hy
def zbQ (cash:List Int)(rs:List PRow)(who bond:Int):Bool:=decide (0≤who)&&(decide (who<cash.length)&&(decide (0≤bond)&&decide (bond<((rs[who.toNat]?).map fun r=>r.l.length).getD 0)))
theorem zeQ (W:World)(p:Nat)(AC:Option Addr)(cC:Nat)(AR:Option Addr)(cR:Nat)(cash:List Int)(rs:List PRow)(hl:rs.length=cash.length)(who bond:Int):
 zaC Tryz.prog W 24 [.pointer (some ⟨p,0,none⟩),.int .i64 who,.int .i64 bond] [.blk p 69 [.slice AR rs.length cR,.slice AC cash.length cC],.own AR rs.length cR 66 1 (rs.map PRow.hd)] (.bool (zbQ cash rs who bond)):=by
 refine zaC.ofD (fun h' hs=> ?_)
 have m0:=hs _ mem0
 have m1:=hs _ mem1
 have hrd:zaE W h' AR rs.length 1 (rs.map PRow.hd):=zaE.own m1 (by simp) (fun v hv=>by
  obtain⟨y,_,rfl⟩:=lmm.1 hv
  rfl)
 refine zau Tryz.func24 rfl rfl Tryz.results24 Tryz.ntmps24 rfl rfl ?_
 refine zaK hrd rfl (fun hA=> ?_)
 by_cases hw:0≤who∧who<cash.length
 ·obtain⟨r,hr⟩:∃r,rs[who.toNat]? =some r:=⟨rs[who.toNat]'(by omega),gge (by omega)⟩
  have hA':=hA (by omega)
  have hix:(rs.map PRow.hd)[who.toNat*1]? =some (.slice r.A r.l.length r.c):=by simp[hr];rfl
  have hv:zbQ cash rs who bond=(decide (0≤bond)&&decide (bond<r.l.length)):=by
   unfold zbQ
   rw[hr,decide_eq_true hw.1,decide_eq_true hw.2];rfl
  rw[hv]
  repeat' (first
   |apply zaA|apply zaa|apply zaz|apply zam|apply zan|apply zae|apply zay
   |(apply zaj hT;(iterate 4 exact rfl))|(apply zak;(iterate 3 exact rfl))|(apply zad;(iterate 2 exact rfl))
   |(apply zax hT;(iterate 4 exact rfl);(iterate 2 (first|omega|(dsimp only;omega))))
   |(apply zas [] [] hmix;decide+kernel)
   |(apply za4 hT;(iterate 8 exact rfl);(iterate 2 omega);exact hA')
   |(apply zab;(iterate 5 exact rfl);exact zaY hT rfl rfl hrd rfl hix)
   |(apply zab;(iterate 5 exact rfl);first|(apply zat hT;exact rfl;exact rfl;(repeat(first|exact List.mem_cons_self|exact m0|apply List.mem_cons_of_mem|apply List.mem_append_right));exact rfl;exact rfl)|(apply zar hT;exact rfl;exact rfl;(repeat(first|exact List.mem_cons_self|exact m0|apply List.mem_cons_of_mem|apply List.mem_append_right));exact rfl))
   |(apply zav;(iterate 5 exact rfl);intro _)|(apply zac hT;(iterate 5 exact rfl);intro _)
   |(apply zaf;(iterate 2 exact rfl))|(apply zag;(iterate 2 exact rfl))
   |(apply zal;exact rfl;all_goals intro hb;all_goals(fail_if_success (change true=true at hb));all_goals(fail_if_success (change false=false at hb));all_goals(try dsimp only at hb);all_goals(try simp only[hb]);all_goals(first|replace hb:=of_decide_eq_true hb|replace hb:=of_decide_eq_false hb|replace hb:=zap hb|replace hb:=zaq hb|replace hb:=eq_of_beq hb|replace hb:=ne_of_beq_false hb|skip);all_goals(try(exfalso;omega)))
   |(apply zao;exact rfl;all_goals intro hb;all_goals(try dsimp only at hb);all_goals(try simp only[hb]);all_goals(first|replace hb:=of_decide_eq_true hb|replace hb:=of_decide_eq_false hb|replace hb:=zap hb|replace hb:=zaq hb|replace hb:=eq_of_beq hb|replace hb:=ne_of_beq_false hb|skip);all_goals(try(exfalso;omega))))
  all_goals first
   |(exfalso;omega)
   |(apply ret1;exact rfl;exact⟨by(first|(simp_all;done)|(simp;omega)),dX⟩)
   |skip
 ·have hv:zbQ cash rs who bond=false:=by
   unfold zbQ
   by_cases h1:0≤who
   ·rw[decide_eq_false (show ¬who<cash.length by omega)];simp
   ·rw[decide_eq_false h1];simp
  rw[hv]
  repeat' (first
   |apply zaA|apply zaa|apply zaz|apply zam|apply zan|apply zae|apply zay
   |(apply zaj hT;(iterate 4 exact rfl))|(apply zak;(iterate 3 exact rfl))|(apply zad;(iterate 2 exact rfl))
   |(apply zax hT;(iterate 4 exact rfl);(iterate 2 (first|omega|(dsimp only;omega))))
   |(apply zas [] [] hmix;decide+kernel)
   |(apply zab;(iterate 5 exact rfl);first|(apply zat hT;exact rfl;exact rfl;(repeat(first|exact List.mem_cons_self|exact m0|apply List.mem_cons_of_mem|apply List.mem_append_right));exact rfl;exact rfl)|(apply zar hT;exact rfl;exact rfl;(repeat(first|exact List.mem_cons_self|exact m0|apply List.mem_cons_of_mem|apply List.mem_append_right));exact rfl))
   |(apply zav;(iterate 5 exact rfl);intro _)|(apply zac hT;(iterate 5 exact rfl);intro _)
   |(apply zaf;(iterate 2 exact rfl))|(apply zag;(iterate 2 exact rfl))
   |(apply zal;exact rfl;all_goals intro hb;all_goals(fail_if_success (change true=true at hb));all_goals(fail_if_success (change false=false at hb));all_goals(try dsimp only at hb);all_goals(try simp only[hb]);all_goals(first|replace hb:=of_decide_eq_true hb|replace hb:=of_decide_eq_false hb|replace hb:=zap hb|replace hb:=zaq hb|replace hb:=eq_of_beq hb|replace hb:=ne_of_beq_false hb|skip);all_goals(try(exfalso;omega)))
   |(apply zao;exact rfl;all_goals intro hb;all_goals(try dsimp only at hb);all_goals(try simp only[hb]);all_goals(first|replace hb:=of_decide_eq_true hb|replace hb:=of_decide_eq_false hb|replace hb:=zap hb|replace hb:=zaq hb|replace hb:=eq_of_beq hb|replace hb:=ne_of_beq_false hb|skip);all_goals(try(exfalso;omega))))
  all_goals first
   |(exfalso;omega)
   |(apply ret1;exact rfl;exact⟨rfl,dX⟩)
   |skip
def zep (cash:List Int)(who:Int):Int:=if who<0 then 0 else(cash[who.toNat]?).getD 0
theorem zgb (W:World)(p:Nat)(AC:Option Addr)(cC:Nat)(AR:Option Addr)(cR:Nat)(cash:List Int)(rs:List PRow)(hl:rs.length=cash.length)(h0:∀r∈rs,0<r.l.length)(who:Int):
 zaC Tryz.prog W 34 [.pointer (some ⟨p,0,none⟩),.int .i64 who] [.blk p 69 [.slice AR rs.length cR,.slice AC cash.length cC],.own AR rs.length cR 66 1 (rs.map PRow.hd),.own AC cash.length cC 2 1 (cash.map (Value.int .i64))] (.int .i64 (zep cash who)):=by
 refine zaC.ofD (fun h' hs=> ?_)
 have m0:=hs _ mem0
 have m1:=hs _ mem1
 have m2:=hs _ mem2
 have hI:=(zeQ W p AC cC AR cR cash rs hl who 0).mono (h':=h') (zcG m0 m1)
 have hrd:zaE W h' AC cash.length 1 (cash.map (Value.int .i64)):=zaE.own m2 (by simp) (fun v hv=>by
  obtain⟨y,_,rfl⟩:=lmm.1 hv
  rfl)
 refine zau Tryz.func34 rfl rfl Tryz.results34 Tryz.ntmps34 rfl rfl ?_
 refine zaK hrd rfl (fun hA=> ?_)
 by_cases hw:0≤who∧who<cash.length
 ·obtain⟨r,hr⟩:∃r,rs[who.toNat]? =some r:=⟨rs[who.toNat]'(by omega),gge (by omega)⟩
  obtain⟨n,hn⟩:∃n,cash[who.toNat]? =some n:=⟨cash[who.toNat]'(by omega),gge (by omega)⟩
  have hA':=hA (by omega)
  have hix:(cash.map (Value.int .i64))[who.toNat*1]? =some (.int .i64 n):=by simp[hn]
  have hrl:=h0 r (mog hr)
  have hv:zbQ cash rs who 0=true:=by
   unfold zbQ
   rw[hr,decide_eq_true hw.1,decide_eq_true hw.2];simp;omega
  have hc:zep cash who=n:=by unfold zep;rw[if_neg (by omega),hn];rfl
  rw[hv]at hI
  rw[hc]
  repeat' (first
   |apply zaA|apply zaa|apply zaz|apply zam|apply zan|apply zae|apply zay
   |(apply zaj hT;(iterate 4 exact rfl))|(apply zak;(iterate 3 exact rfl))|(apply zad;(iterate 2 exact rfl))
   |(apply zax hT;(iterate 4 exact rfl);(iterate 2 (first|omega|(dsimp only;omega))))
   |(apply zas [] [] hmix;decide+kernel)
   |(apply zaw (hs:=(hI.mono (by(intro c hc;(repeat(first|exact hc|apply List.mem_cons_of_mem|apply List.mem_append_right))))));(iterate 7 exact rfl))
   |(apply za4 hT;(iterate 8 exact rfl);(iterate 2 omega);exact hA')
   |(apply zab;(iterate 5 exact rfl);exact zaY hT rfl rfl hrd rfl hix)
   |(apply zab;(iterate 5 exact rfl);first|(apply zat hT;exact rfl;exact rfl;(repeat(first|exact List.mem_cons_self|exact m0|apply List.mem_cons_of_mem|apply List.mem_append_right));exact rfl;exact rfl)|(apply zar hT;exact rfl;exact rfl;(repeat(first|exact List.mem_cons_self|exact m0|apply List.mem_cons_of_mem|apply List.mem_append_right));exact rfl))
   |(apply zav;(iterate 5 exact rfl);intro _)|(apply zac hT;(iterate 5 exact rfl);intro _)
   |(apply zaf;(iterate 2 exact rfl))|(apply zag;(iterate 2 exact rfl))
   |(apply zal;exact rfl;all_goals intro hb;all_goals(fail_if_success (change true=true at hb));all_goals(fail_if_success (change false=false at hb));all_goals(try dsimp only at hb);all_goals(try simp only[hb]);all_goals(first|replace hb:=of_decide_eq_true hb|replace hb:=of_decide_eq_false hb|replace hb:=zap hb|replace hb:=zaq hb|replace hb:=eq_of_beq hb|replace hb:=ne_of_beq_false hb|skip);all_goals(try(exfalso;omega)))
   |(apply zao;exact rfl;all_goals intro hb;all_goals(try dsimp only at hb);all_goals(try simp only[hb]);all_goals(first|replace hb:=of_decide_eq_true hb|replace hb:=of_decide_eq_false hb|replace hb:=zap hb|replace hb:=zaq hb|replace hb:=eq_of_beq hb|replace hb:=ne_of_beq_false hb|skip);all_goals(try(exfalso;omega))))
  all_goals first
   |(exfalso;omega)
   |(apply ret1;exact rfl;exact⟨rfl,dX⟩)
   |skip
 ·have hv:zbQ cash rs who 0=false:=by
   unfold zbQ
   by_cases h1:0≤who
   ·rw[decide_eq_false (show ¬who<cash.length by omega)];simp
   ·rw[decide_eq_false h1];simp
  have hc:zep cash who=0:=by
   unfold zep
   split
   ·rfl
   ·rw[List.getElem?_eq_none (by omega)];rfl
  rw[hv]at hI
  rw[hc]
  repeat' (first
   |apply zaA|apply zaa|apply zaz|apply zam|apply zan|apply zae|apply zay
   |(apply zaj hT;(iterate 4 exact rfl))|(apply zak;(iterate 3 exact rfl))|(apply zad;(iterate 2 exact rfl))
   |(apply zax hT;(iterate 4 exact rfl);(iterate 2 (first|omega|(dsimp only;omega))))
   |(apply zas [] [] hmix;decide+kernel)
   |(apply zaw (hs:=(hI.mono (by(intro c hc;(repeat(first|exact hc|apply List.mem_cons_of_mem|apply List.mem_append_right))))));(iterate 7 exact rfl))
   |(apply zab;(iterate 5 exact rfl);first|(apply zat hT;exact rfl;exact rfl;(repeat(first|exact List.mem_cons_self|exact m0|apply List.mem_cons_of_mem|apply List.mem_append_right));exact rfl;exact rfl)|(apply zar hT;exact rfl;exact rfl;(repeat(first|exact List.mem_cons_self|exact m0|apply List.mem_cons_of_mem|apply List.mem_append_right));exact rfl))
   |(apply zav;(iterate 5 exact rfl);intro _)|(apply zac hT;(iterate 5 exact rfl);intro _)
   |(apply zaf;(iterate 2 exact rfl))|(apply zag;(iterate 2 exact rfl))
   |(apply zal;exact rfl;all_goals intro hb;all_goals(fail_if_success (change true=true at hb));all_goals(fail_if_success (change false=false at hb));all_goals(try dsimp only at hb);all_goals(try simp only[hb]);all_goals(first|replace hb:=of_decide_eq_true hb|replace hb:=of_decide_eq_false hb|replace hb:=zap hb|replace hb:=zaq hb|replace hb:=eq_of_beq hb|replace hb:=ne_of_beq_false hb|skip);all_goals(try(exfalso;omega)))
   |(apply zao;exact rfl;all_goals intro hb;all_goals(try dsimp only at hb);all_goals(try simp only[hb]);all_goals(first|replace hb:=of_decide_eq_true hb|replace hb:=of_decide_eq_false hb|replace hb:=zap hb|replace hb:=zaq hb|replace hb:=eq_of_beq hb|replace hb:=ne_of_beq_false hb|skip);all_goals(try(exfalso;omega))))
  all_goals first
   |(exfalso;omega)
   |(apply ret1;exact rfl;exact⟨rfl,dX⟩)
   |skip
end Go.Proofs.YteocfhdocpeokaaGreat
set_option linter.unusedSimpArgs false
set_option linter.unusedVariables false
namespace Go.Sl
open Go Go.RowKit
variable {P : Program} {W : World} {N : Nat} {T : Tab} {env : Env} {h : List zah} {Q : Exit → Env → List zah → Prop} {kf : KF} {ops : Array Oper} {K : Env → List zah → Prop} {rest : List Oper}
theorem zgS (hT:zbc P T){b:Bool}{e:Int}{d:Tmp}{op ty pos af g}(hg:zba ops env g=some b)(hb:b=true)(hd:Nat.blt d N=true)(hv:zbN T env op=some (.u64,e))
 (hK:ES P W N kf ops rest ((d,.int .u64 (e%18446744073709551616))::env) h K):ES P W N kf ops (⟨some d,op,ty,pos,af,g⟩::rest) env h K:=
 zbO hg hb hd (fun _ ha w=>by rw[zbH hT ha hv w,IntKind.wrap_u64]) hK
theorem zg6 {b:Bool}{e:Int}{n:Nat}{k yk:IntKind}{d:Tmp}{t yt:TypeId}{x y:Operand}{ty pos af g}(hg:zba ops env g=some b)(hb:b=true)(hd:Nat.blt d N=true)(hx:zaR env x=some (.int k e))(hy:zaR env y=some (.int yk (n:Int)))(hk:k.bits=64)(hn:n≤64)
 (hK:ES P W N kf ops rest ((d,.int k (e / (2^n:Nat)))::env) h K):ES P W N kf ops (⟨some d,.binOp .shr t x y yt,ty,pos,af,g⟩::rest) env h K:=
 zbO hg hb hd (fun a ha w=>by
  have h2:(0:Int)≤((2^n:Nat):Int):=Int.natCast_nonneg _
  have e1:e.fdiv ((2^n:Nat):Int)=e / ((2^n:Nat):Int):=Int.fdiv_eq_ediv_of_nonneg e h2
  have this':min n k.bits=n:=by rw[hk];omega
  have e2:¬((n:Int)<0):=by omega
  rw[←e1]
  simp[execOp,ha.eval hx,ha.eval hy,eqGuard,binOp,Op.shift,this',e2]) hK
theorem zg7 {b:Bool}{e:Int}{d:Tmp}{t yt:TypeId}{x y:Operand}{ty pos af g}(hg:zba ops env g=some b)(hb:b=true)(hd:Nat.blt d N=true)(hx:zaR env x=some (.int .i64 e))(hy:zaR env y=some (.int .i64 1))(h0:0≤e)(h1:e≤9223372036854775807)
 (hK:ES P W N kf ops rest ((d,.int .i64 (e%2))::env) h K):ES P W N kf ops (⟨some d,.binOp .and t x y yt,ty,pos,af,g⟩::rest) env h K:=by
 obtain⟨n,rfl⟩:=Int.eq_ofNat_of_zero_le h0
 have e1:(BitVec.ofInt 64 (n:Int) &&& BitVec.ofInt 64 (1:Int)).toNat=n%2:=by
  rw[BitVec.toNat_and,show BitVec.ofInt 64 (n:Int)=BitVec.ofNat 64 n from BitVec.ofInt_natCast ..,show(BitVec.ofInt 64 (1:Int)).toNat=1 from by decide,BitVec.toNat_ofNat,Nat.and_one_is_mod]
  omega
 refine zbO hg hb hd (fun a ha w=> ?_) hK
 have e2:(Op.intBits .and .i64 (n:Int) 1).run P w=.ok (.int .i64 ((n:Int)%2)) w:=by
  show(pure (Value.int .i64 (IntKind.i64.wrap ((BitVec.ofInt 64 (n:Int) &&& BitVec.ofInt 64 (1:Int)).toNat:Int))):Sem Value).run P w=_
  rw[Sem.run_pure,e1,IntWalk.i64_in _ ⟨by omega,by omega⟩]
  congr 2
 simp[execOp,ha.eval hx,ha.eval hy,eqGuard,binOp,e2]
end Go.Sl
set_option linter.unusedSimpArgs false
set_option linter.unusedVariables false
namespace Go.Sl
open Go Go.RowKit
variable {P : Program} {W : World} {N : Nat} {T : Tab} {env : Env} {h : List zah} {Q : Exit → Env → List zah → Prop} {kf : KF} {ops : Array Oper} {K : Env → List zah → Prop} {rest : List Oper}
def bitI (op:BinOp)(k:IntKind)(x y:Int):Int:=match op with
 | .and=>k.wrap (BitVec.ofInt k.bits x &&& BitVec.ofInt k.bits y).toNat
 | .or=>k.wrap (BitVec.ofInt k.bits x ||| BitVec.ofInt k.bits y).toNat
 | .xor=>k.wrap (BitVec.ofInt k.bits x ^^^ BitVec.ofInt k.bits y).toNat
 |_=>k.wrap (BitVec.ofInt k.bits x &&& ~~~ BitVec.ofInt k.bits y).toNat
def zgC :BinOp→Bool
 | .and| .or| .xor| .andNot=>true
 |_=>false
theorem zeq {b:Bool}{e f:Int}{k:IntKind}{op:BinOp}{d:Tmp}{t yt:TypeId}{x y:Operand}{ty pos af g}(hg:zba ops env g=some b)(hb:b=true)(hd:Nat.blt d N=true)(hop:zgC op=true)(hx:zaR env x=some (.int k e))(hy:zaR env y=some (.int k f))
 (hK:ES P W N kf ops rest ((d,.int k (bitI op k e f))::env) h K):ES P W N kf ops (⟨some d,.binOp op t x y yt,ty,pos,af,g⟩::rest) env h K:=by
 refine zbO hg hb hd (fun a ha w=> ?_) hK
 cases op<;>first|(exact absurd hop (by decide))|(simp[execOp,ha.eval hx,ha.eval hy,eqGuard,binOp,Op.intBits,bitI])
theorem zg8 {b:Bool}{e f:Int}{k yk:IntKind}{d:Tmp}{t yt:TypeId}{x y:Operand}{ty pos af g}(hg:zba ops env g=some b)(hb:b=true)(hd:Nat.blt d N=true)(hx:zaR env x=some (.int k e))(hy:zaR env y=some (.int yk f))(h0:0≤f)
 (hK:ES P W N kf ops rest ((d,.int k (k.wrap (e*2^(min f.toNat k.bits))))::env) h K):ES P W N kf ops (⟨some d,.binOp .shl t x y yt,ty,pos,af,g⟩::rest) env h K:=by
 refine zbO hg hb hd (fun a ha w=> ?_) hK
 have e2:¬(f<0):=by omega
 simp[execOp,ha.eval hx,ha.eval hy,eqGuard,binOp,Op.shift,e2]
end Go.Sl
set_option linter.unusedSimpArgs false
set_option linter.unusedVariables false
namespace Go.Proofs.YteocfhdocpeokaaGreat
open Go Go.Sl
def inB (n a b:Int):Bool:=decide (n≥a)&&decide (n≤b)
theorem zcA {n a b:Int}(h:inB n a b=true):a≤n∧n≤b:=by simp[inB]at h;omega
theorem ziq {n a b:Int}(h:inB n a b=false):n<a∨b<n:=by
 unfold inB at h
 by_cases h1:n≥a
 ·simp[h1]at h;omega
 ·omega
def zcS (b:za1):Bool:=(inB b.tick 1 1000000&&inB b.low 1 1000000&&inB b.high b.low 1000000)&&(inB b.lot 1 1000000&&inB b.min 1 1000000&&inB b.max b.min 1000000)&&decide (b.max - b.max%b.lot≥b.min)
def zbw (l:List zaH):Nat→Nat
 |0=>0
 |k+1=>zbw l k+(match l[k]? with
  |some p=>if p.role=2 then 2^k else 0
  |none=>0)
theorem zdX (l:List zaH):∀k,zbw l k<2^k
 |0=>by simp[zbw]
 |k+1=>by
  have h1:=zdX l k
  have h0:0<2^k:=Nat.two_pow_pos k
  unfold zbw
  rw[Nat.pow_succ]
  generalize 2^k=m at*
  split
  ·split<;>omega
  ·omega
def zcd (p:zaH)(all:Int):Bool:=
 if p.role=1 then bitI .andNot .u64 p.asks all==0&&p.cap==0 else if p.role=2 then p.asks==0&&inB p.cap 0 1099511627776 else if p.role=3 then p.asks==0&&p.cap==0 else false
def isR (bs:List za1)(ps:List zaH)(look beat:Int):Bool:=
 (inB bs.length 1 4&&inB ps.length 1 8)&&(bs.all zcS&&ps.all (fun p=>zcd p (zbw ps ps.length))&&inB look 1 1000&&inB beat 1 1000)
theorem zg9 {a k:Nat}(h:a<2^k)(hk:k<64):bitI .or .u64 (a:Int) (IntKind.u64.wrap (1*2^(min ((k:Int)).toNat IntKind.u64.bits)))=((a+2^k:Nat):Int):=by
 have h64:2^k<2^64:=Nat.pow_lt_pow_right (by decide) hk
 have e1:IntKind.u64.wrap (1*2^(min ((k:Int)).toNat IntKind.u64.bits))=((2^k:Nat):Int):=by
  have:min ((k:Int)).toNat IntKind.u64.bits=k:=by show min _ 64=k;omega
  rw[this,Int.one_mul]
  rw[show((2:Int)^k)=((2^k:Nat):Int)by simp]
  exact IntWalk.u64_in _ ⟨by omega,by omega⟩
 rw[e1]
 show IntKind.u64.wrap ((BitVec.ofInt 64 (a:Int) ||| BitVec.ofInt 64 ((2^k:Nat):Int)).toNat:Int)=_
 have e2:(BitVec.ofInt 64 (a:Int) ||| BitVec.ofInt 64 ((2^k:Nat):Int)).toNat=a+2^k:=by
  rw[BitVec.toNat_or,BitVec.ofInt_natCast,BitVec.ofInt_natCast,BitVec.toNat_ofNat,BitVec.toNat_ofNat,Nat.mod_eq_of_lt (by omega),Nat.mod_eq_of_lt h64,Nat.or_comm]
  have:=Nat.two_pow_add_eq_or_of_lt h 1
  rw[Nat.mul_one]at this
  rw[←this];omega
 rw[e2]
 have:a+2^k<2^64:=by
  have h3:2^(k+1)≤2^64:=Nat.pow_le_pow_right (by decide) hk
  rw[Nat.pow_succ]at h3;omega
 exact IntWalk.u64_in _ ⟨by omega,by omega⟩
theorem zer {l:List zaH}{k:Nat}{p:zaH}(h:l[k]? =some p):zbw l (k+1)=zbw l k+if p.role=2 then 2^k else 0:=by
 show zbw l k+_=_
 rw[h]
end Go.Proofs.YteocfhdocpeokaaGreat
set_option linter.unusedSimpArgs false
set_option linter.unusedVariables false
namespace Go.Proofs.YteocfhdocpeokaaGreat
open Go Go.Sl
def at0 {α:Type}(l:List α)(i:Int):Option α:=if i<0 then none else l[i.toNat]?
def inW (n:Int):Prop:= -9223372036854775808≤n∧n≤9223372036854775807
def inI (n:Int):Bool:=inB n (-9223372036854775808) 9223372036854775807
theorem zcT {n:Int}(h:inI n=true): -9223372036854775808≤n∧n≤9223372036854775807:=zcA h
theorem ze5 {n:Int}(h:inI n=false):n< -9223372036854775808∨9223372036854775807<n:=ziq h
structure Ps where
 cash:List Int
 pos:List (List Int)
def za8 (p:Ps)(who bond:Int):Int:=((at0 p.pos who).bind fun r=>at0 r bond).getD 0
def za0 (p:Ps)(who:Int):Int:=(at0 p.cash who).getD 0
def zbh (p:Ps)(who bond:Int):Bool:=decide (0≤who)&&(decide (who<p.cash.length)&&(decide (0≤bond)&&decide (bond<((at0 p.pos who).getD []).length)))
def putE (p:Ps)(t:zaG):Int:=
 if zbh p t.buyer t.bond=false∨zbh p t.seller t.bond=false∨t.buyer=t.seller∨t.price<1∨t.qty<1 then 1
 else if inI (t.price*t.qty)&&inI (za8 p t.buyer t.bond+t.qty)&&inI (za8 p t.seller t.bond - t.qty)&&inI (za0 p t.buyer - t.price*t.qty)&&inI (za0 p t.seller+t.price*t.qty)then 0 else 15
def setRow (l:List (List Int))(who bond n:Int):List (List Int):=l.set who.toNat (((at0 l who).getD []).set bond.toNat n)
def putP (p:Ps)(t:zaG):Ps:=
 if putE p t=0 then⟨(p.cash.set t.buyer.toNat (za0 p t.buyer - t.price*t.qty)).set t.seller.toNat (za0 p t.seller+t.price*t.qty),
  setRow (setRow p.pos t.buyer t.bond (za8 p t.buyer t.bond+t.qty)) t.seller t.bond (za8 p t.seller t.bond - t.qty)⟩else p
theorem zdG {α:Type}:∀{l:List α} {i:Nat},i<l.length→∃R,∀a,(l.set i a).Perm (a::R)
 |[],i,h=>absurd h (Nat.not_lt_zero _)
 |x::l,0,_=>⟨l,fun a=>plr _⟩
 |x::l,i+1,h=>by
  obtain⟨R,hR⟩:=zdG (l:=l) (i:=i) (by simpa using h)
  exact⟨x::R,fun a=>((hR a).cons x).trans (List.Perm.swap _ _ _)⟩
theorem zcU {α:Type}:∀{l:List α} {i j:Nat},i<l.length→j<l.length→i≠j→∃R,∀a b,((l.set i a).set j b).Perm (a::b::R)
 |[],i,j,h,_,_=>absurd h (Nat.not_lt_zero _)
 |x::l,0,0,_,_,h=>absurd rfl h
 |x::l,0,j+1,_,h,_=>by
  obtain⟨R,hR⟩:=zdG (l:=l) (i:=j) (by simpa using h)
  exact⟨R,fun a b=>(hR b).cons a⟩
 |x::l,i+1,0,h,_,_=>by
  obtain⟨R,hR⟩:=zdG (l:=l) (i:=i) (by simpa using h)
  exact⟨R,fun a b=>((hR a).cons b).trans (List.Perm.swap _ _ _)⟩
 |x::l,i+1,j+1,h1,h2,h3=>by
  obtain⟨R,hR⟩:=zcU (l:=l) (i:=i) (j:=j) (by simpa using h1) (by simpa using h2) (by omega)
  exact⟨x::R,fun a b=>((hR a b).cons x).trans (((List.Perm.swap a x _).trans ((List.Perm.swap b x R).cons a)))⟩
theorem zbx {α:Type}{l:List α}{i:Nat}{a:α}(h:l[i]? =some a):l.set i a=l:=by
 obtain⟨hi,rfl⟩:=gsi.1 h
 exact List.set_getElem_self hi
end Go.Proofs.YteocfhdocpeokaaGreat
set_option linter.unusedSimpArgs false
set_option linter.unusedVariables false
namespace Go.Proofs.YteocfhdocpeokaaGreat
open Go Go.Sl
def zbR :List zaG→Ps→Option Ps
 |[],p=>some p
 |t::l,p=>if putE p t=0 then zbR l (putP p t)else none
def zbo (np nb:Nat):Ps:=⟨List.replicate np 0,List.replicate np (List.replicate nb 0)⟩
def zbS (nb:Nat)(w p:Ps)(i:Nat):Bool:=za0 w i==za0 p i&&(List.range nb).all fun(k:Nat)=>za8 w i k==za8 p i k
def eqPs (np nb:Nat)(w p:Ps):Bool:=(List.range np).all (zbS nb w p)
def zdY (np nb:Nat)(l:List zaG)(p:Ps):Bool:=match zbR l (zbo np nb)with
 |none=>false
 |some w=>eqPs np nb w p
/-- who has what, of so many parties and bonds, in numbers that an int64 holds -/
structure PsOK (np nb:Nat)(p:Ps):Prop where
 nc:p.cash.length=np
 np:p.pos.length=np
 row:∀r∈p.pos,r.length=nb
 wc:∀n∈p.cash,inW n
 wr:∀r∈p.pos,∀n∈r,inW n
theorem zcj (np nb:Nat):PsOK np nb (zbo np nb):=by
 refine⟨by simp[zbo],by simp[zbo],fun r hr=> ?_,fun n hn=> ?_,fun r hr n hn=> ?_⟩
 ·rw[(List.mem_replicate.1 hr).2];simp
 ·rw[(List.mem_replicate.1 hn).2];unfold inW;omega
 ·rw[(List.mem_replicate.1 hr).2]at hn
  rw[(List.mem_replicate.1 hn).2];unfold inW;omega
theorem zeR {α:Type}{l:List α}{i:Nat}{x y:α}(h:y∈l.set i x):y=x∨y∈l:=(List.mem_or_eq_of_mem_set h).symm
theorem at0M {α:Type}{l:List α}{i:Int}{x:α}(h:at0 l i=some x):x∈l:=by
 unfold at0 at h
 split at h
 ·cases h
 ·exact mog h
theorem zeS {α:Type}{l:List α}{i:Int}{x:α}(h:at0 l i=some x):0≤i∧i<l.length:=by
 unfold at0 at h
 split at h
 ·cases h
 ·have:=(gsi.1 h).1
  omega
theorem zfv {α:Type}{l:List α}{i:Int}(h0:0≤i)(h1:i<l.length):at0 l i=some (l[i.toNat]'(by omega)):=by
 unfold at0
 rw[if_neg (by omega)]
 exact gge _
theorem za5 {np nb:Nat}{p:Ps}(h:PsOK np nb p){who bond:Int}:zbh p who bond=true↔(0≤who∧who<np)∧0≤bond∧bond<nb:=by
 unfold zbh
 simp only[Bool.and_eq_true,decide_eq_true_eq]
 have h1:=h.nc
 have h2:=h.np
 constructor
 ·rintro⟨a,b,c,d⟩
  rw[zfv a (by omega)]at d
  have:=h.row _ (List.getElem_mem (l:=p.pos) (n:=who.toNat) (by omega))
  simp only[Option.getD_some]at d
  omega
 ·rintro⟨⟨a,b⟩,c,d⟩
  refine⟨a,by omega,c,?_⟩
  rw[zfv a (by omega)]
  have:=h.row _ (List.getElem_mem (l:=p.pos) (n:=who.toNat) (by omega))
  simp only[Option.getD_some]
  omega
theorem zdl {l:List (List Int)}{who bond n:Int}{b:Nat}(h:∀r∈l,r.length=b∧∀n∈r,inW n)(hw:0≤who∧who<l.length)(hn:inW n):∀r∈setRow l who bond n,r.length=b∧∀n∈r,inW n:=by
 intro r hr
 unfold setRow at hr
 rcases zeR hr with rfl|hr
 ·have hx:=zfv hw.1 hw.2
  obtain⟨h1,h2⟩:=h _ (at0M hx)
  rw[hx]
  refine⟨by simpa using h1,fun m hm=> ?_⟩
  rcases zeR hm with rfl|hm
  ·exact hn
  ·exact h2 m hm
 ·exact h r hr
theorem ze6 {p:Ps}{t:zaG}(h:putE p t=0):zbh p t.buyer t.bond=true∧zbh p t.seller t.bond=true∧t.buyer≠t.seller∧1≤t.price∧1≤t.qty∧inI (t.price*t.qty)=true∧inI (za8 p t.buyer t.bond+t.qty)=true∧inI (za8 p t.seller t.bond - t.qty)=true∧inI (za0 p t.buyer - t.price*t.qty)=true∧inI (za0 p t.seller+t.price*t.qty)=true:=by
 unfold putE at h
 split at h
 ·cases h
 ·rename_i h1
  split at h
  ·rename_i h2
   simp only[Bool.and_eq_true]at h2
   simp only[not_or,Bool.not_eq_false]at h1
   exact⟨h1.1,h1.2.1,h1.2.2.1,by omega,by omega,h2.1.1.1.1,h2.1.1.1.2,h2.1.1.2,h2.1.2,h2.2⟩
  ·cases h
theorem zdH {np nb:Nat}{p:Ps}(h:PsOK np nb p)(t:zaG):PsOK np nb (putP p t):=by
 unfold putP
 split
 ·rename_i h0
  obtain⟨b1,b2,_,_,_,_,a2,a3,a4,a5⟩:=ze6 h0
  have b1:=(za5 h).1 b1
  have b2:=(za5 h).1 b2
  have hn:=h.np
  have hrow:∀r∈setRow (setRow p.pos t.buyer t.bond (za8 p t.buyer t.bond+t.qty)) t.seller t.bond (za8 p t.seller t.bond - t.qty),r.length=nb∧∀n∈r,inW n:=by
   refine zdl (zdl (fun r hr=>⟨h.row r hr,h.wr r hr⟩) (by omega) (zcT a2)) ?_ (zcT a3)
   unfold setRow
   simp only[List.length_set]
   omega
  refine⟨by simp[h.nc],by unfold setRow;simp[h.np],fun r hr=>(hrow r hr).1,fun n hn=> ?_,fun r hr=>(hrow r hr).2⟩
  rcases zeR hn with rfl|hn
  ·exact zcT a5
  ·rcases zeR hn with rfl|hn
   ·exact zcT a4
   ·exact h.wc n hn
 ·exact h
theorem zcV {l:List zaG}{k:Nat}{t:zaG}(ht:l[k]? =some t)(p:Ps):zbR (l.drop k) p=if putE p t=0 then zbR (l.drop (k+1)) (putP p t)else none:=by
 obtain⟨hk,rfl⟩:=gsi.1 ht
 rw[List.drop_eq_getElem_cons hk]
 rfl
end Go.Proofs.YteocfhdocpeokaaGreat
set_option linter.unusedSimpArgs false
set_option linter.unusedVariables false
namespace Go.Proofs.YteocfhdocpeokaaGreat
open Go Go.Sl Go.RowKit
namespace MulK
theorem maskN (a:Nat)(ha:a<18446744073709551616):bits .and .u64 (a:Int) 4294967295=((a%4294967296:Nat):Int):=by
 have h:=bits_and_u64_nat a 4294967295 ha (by omega)
 have e:a &&& 4294967295=a%4294967296:=Nat.and_two_pow_sub_one_eq_mod a 32
 rw[e]at h
 exact h
theorem divN (a:Nat):(a:Int) / 4294967296=((a / 4294967296:Nat):Int):=by omega
theorem mulN (a b:Nat):(a:Int)*(b:Int)=((a*b:Nat):Int):=(Int.natCast_mul a b).symm
theorem addN (a b:Nat):(a:Int)+(b:Int)=((a+b:Nat):Int):=(Int.natCast_add a b).symm
theorem wrapN (a:Nat)(ha:a<18446744073709551616):IntKind.u64.wrap (a:Int)=(a:Int):=by rw[IntKind.wrap_u64];omega
theorem wrapM (a:Nat):IntKind.u64.wrap (a:Int)=((a%18446744073709551616:Nat):Int):=by rw[IntKind.wrap_u64];omega
end MulK
theorem mulK (x y:Nat)(hx:x<18446744073709551616)(hy:y<18446744073709551616)(w:World):
 Calls Tryz.prog 68 #[.int .u64 x,.int .u64 y] w fun e w'=>e=.returned (.tuple #[.int .u64 ((x*y / 18446744073709551616:Nat):Int),.int .u64 ((x*y%18446744073709551616:Nat):Int)])∧w'=w:=by
 obtain⟨bd,bt,bw,hhi⟩:=Lib.mul64_hi x y hx hy
 have ba:=Lib.half_mul_le (a:=x / 4294967296) (b:=y / 4294967296) (by omega) (by omega)
 have bb:=Lib.half_mul_le (a:=x / 4294967296) (b:=y%4294967296) (by omega) (by omega)
 have bc:=Lib.half_mul_le (a:=x%4294967296) (b:=y / 4294967296) (by omega) (by omega)
 have ba':x / 4294967296*(y / 4294967296)<18446744073709551616:=by omega
 have bb':x / 4294967296*(y%4294967296)<18446744073709551616:=by omega
 have bc':x%4294967296*(y / 4294967296)<18446744073709551616:=by omega
 have bh1:x / 4294967296*(y / 4294967296)+(x / 4294967296*(y%4294967296)+x%4294967296*(y%4294967296) / 4294967296) / 4294967296<18446744073709551616:=by omega
 have bh:x / 4294967296*(y / 4294967296)+(x / 4294967296*(y%4294967296)+x%4294967296*(y%4294967296) / 4294967296) / 4294967296+((x / 4294967296*(y%4294967296)+x%4294967296*(y%4294967296) / 4294967296)%4294967296+x%4294967296*(y / 4294967296)) / 4294967296<18446744073709551616:=by omega
 go_enter Tryz.func68,Tryz.ntmps68
 go_wp2
 simp only[MulK.maskN x hx,MulK.maskN y hy,MulK.divN,MulK.mulN,MulK.addN,MulK.wrapN _ bd,MulK.wrapN _ bb',MulK.wrapN _ bt,MulK.maskN _ bt,MulK.wrapN _ bc',MulK.wrapN _ bw,MulK.wrapN _ ba',MulK.wrapN _ bh1,MulK.wrapN _ bh,MulK.wrapM (x*y)]
 rw[hhi]
 go_ret2
 exact⟨rfl,rfl⟩
theorem zir (W:World)(x y:Nat)(hx:x<18446744073709551616)(hy:y<18446744073709551616):
 zaC Tryz.prog W 68 [.int .u64 x,.int .u64 y] [] (.tuple #[.int .u64 ((x*y / 18446744073709551616:Nat):Int),.int .u64 ((x*y%18446744073709551616:Nat):Int)]):=
 ⟨⟨_,Tryz.func68,rfl,rfl⟩,fun h' hs w hw=>(mulK x y hx hy w).mono fun e w' ⟨he,hww⟩=>⟨he,by rw[hww];exact hw⟩⟩
end Go.Proofs.YteocfhdocpeokaaGreat
set_option linter.unusedSimpArgs false
set_option linter.unusedVariables false
namespace Go.Proofs.YteocfhdocpeokaaGreat
open Go Go.Sl
attribute [local irreducible] AW ES EP Ld RetQ
set_option maxRecDepth 100000
/-- a number of 128 digits -/
def zda (n:Nat):List Value:=[.int .u64 ((n / 18446744073709551616:Nat):Int),.int .u64 ((n%18446744073709551616:Nat):Int)]
theorem zeT {n:Nat}{x y:Int}(hx:x=((n / 18446744073709551616:Nat):Int))(hy:y=((n%18446744073709551616:Nat):Int)):([.int .u64 x,.int .u64 y]:List Value)=zda n:=by rw[hx,hy];rfl
/-- a number, or none -/
def gotW (n:Option Nat):Value:=match n with
 |some n=>.tuple #[.agg (zda n).toArray,.bool true]
 |none=>.tuple #[.agg (zda 0).toArray,.bool false]
theorem zfw (W:World)(a b:Nat)(ha:a≤9223372036854775807)(hb:b≤9223372036854775807):
 zaC Tryz.prog W 25 [.int .i64 a,.int .i64 b] [] (gotW (some (a*b))):=by
 refine zaC.ofD (fun h' hs=> ?_)
 have hm:=(zir W a b (by omega) (by omega))
 refine zau Tryz.func25 rfl rfl Tryz.results25 Tryz.ntmps25 rfl rfl ?_
 repeat' (first
  |apply zaA|apply zaa|apply zaz|apply zam|apply zan|apply zae|apply zay
  |(apply zaj hT;(iterate 4 exact rfl))|(apply zak;(iterate 3 exact rfl))|(apply zad;(iterate 2 exact rfl))
  |(apply zax hT;(iterate 4 exact rfl);(iterate 2 (first|omega|(dsimp only;omega))))
  |(apply zas [] [] hmix;decide+kernel)
  |(apply zac hT;(iterate 5 exact rfl);intro g4)
  |(apply zgA hT;(iterate 4 exact rfl);(iterate 2 omega))
  |(apply zaw (hs:=(hm.mono (by simp)));(iterate 7 exact rfl))
  |(apply zbI hT;(iterate 4 exact rfl))
  |(apply zaQ hT;(iterate 6 exact rfl);exact sX;(iterate 3 exact rfl);exact Nat.le_of_ble_eq_true rfl)
  |(apply zab;(iterate 5 exact rfl);first|(apply zat hT;exact rfl;exact rfl;(repeat(first|exact List.mem_cons_self|apply List.mem_cons_of_mem|apply List.mem_append_right));exact rfl;exact rfl)|(apply zar hT;exact rfl;exact rfl;(repeat(first|exact List.mem_cons_self|apply List.mem_cons_of_mem|apply List.mem_append_right));exact rfl))
  |(apply zav;(iterate 5 exact rfl);intro _)|(apply zac hT;(iterate 5 exact rfl);intro _)
  |(apply zaf;(iterate 2 exact rfl))|(apply zag;(iterate 2 exact rfl))
  |(apply zal;exact rfl;all_goals intro hb;all_goals(fail_if_success (change true=true at hb));all_goals(fail_if_success (change false=false at hb));all_goals(try dsimp only at hb);all_goals(try simp only[hb]);all_goals(first|replace hb:=of_decide_eq_true hb|replace hb:=of_decide_eq_false hb|replace hb:=zap hb|replace hb:=zaq hb|replace hb:=eq_of_beq hb|replace hb:=ne_of_beq_false hb|skip);all_goals(try(exfalso;omega)))
  |(apply zao;exact rfl;all_goals intro hb;all_goals(try dsimp only at hb);all_goals(try simp only[hb]);all_goals(first|replace hb:=of_decide_eq_true hb|replace hb:=of_decide_eq_false hb|replace hb:=zap hb|replace hb:=zaq hb|replace hb:=eq_of_beq hb|replace hb:=ne_of_beq_false hb|skip);all_goals(try(exfalso;omega))))
 all_goals first
  |(exfalso;omega)
  |(apply zf5;exact rfl;exact zar hT rfl rfl mem0 rfl;exact rfl;exact⟨rfl,zbt zbi⟩)
theorem zdZ (W:World)(m n:Nat)(hs:m+n<340282366920938463463374607431768211456):
 zaC Tryz.prog W 69 [.agg (zda m).toArray,.agg (zda n).toArray] [] (gotW (some (m+n))):=by
 refine zaC.ofD (fun h' _=> ?_)
 refine zau Tryz.func69 rfl rfl Tryz.results69 Tryz.ntmps69 rfl rfl ?_
 repeat' (first
  |apply zaA|apply zaa|apply zaz|apply zam|apply zan|apply zae|apply zay
  |(apply zaj hT;(iterate 4 exact rfl))|(apply zak;(iterate 3 exact rfl))|(apply zad;(iterate 2 exact rfl))
  |(apply zax hT;(iterate 4 exact rfl);(iterate 2 (first|omega|(dsimp only;omega))))
  |(apply zas [] [] hmix;decide+kernel)
  |(apply zac hT;(iterate 5 exact rfl);intro g4)
  |(apply zgS hT;(iterate 4 exact rfl))
  |(apply zbI hT;(iterate 4 exact rfl))
  |(apply zaQ hT;(iterate 6 exact rfl);exact sX;(iterate 3 exact rfl);exact Nat.le_of_ble_eq_true rfl)
  |(apply zab;(iterate 5 exact rfl);first|(apply zat hT;exact rfl;exact rfl;(repeat(first|exact List.mem_cons_self|apply List.mem_cons_of_mem|apply List.mem_append_right));exact rfl;exact rfl)|(apply zar hT;exact rfl;exact rfl;(repeat(first|exact List.mem_cons_self|apply List.mem_cons_of_mem|apply List.mem_append_right));exact rfl))
  |(apply zav;(iterate 5 exact rfl);intro _)|(apply zac hT;(iterate 5 exact rfl);intro _)
  |(apply zaf;(iterate 2 exact rfl))|(apply zag;(iterate 2 exact rfl))
  |(apply zal;exact rfl;all_goals intro hb;all_goals(fail_if_success (change true=true at hb));all_goals(fail_if_success (change false=false at hb));all_goals(try dsimp only at hb);all_goals(try simp only[hb]);all_goals(first|replace hb:=of_decide_eq_true hb|replace hb:=of_decide_eq_false hb|replace hb:=zap hb|replace hb:=zaq hb|replace hb:=eq_of_beq hb|replace hb:=ne_of_beq_false hb|skip);all_goals(try(exfalso;omega)))
  |(apply zao;exact rfl;all_goals intro hb;all_goals(try dsimp only at hb);all_goals(try simp only[hb]);all_goals(first|replace hb:=of_decide_eq_true hb|replace hb:=of_decide_eq_false hb|replace hb:=zap hb|replace hb:=zaq hb|replace hb:=eq_of_beq hb|replace hb:=ne_of_beq_false hb|skip);all_goals(try(exfalso;omega))))
 all_goals first
  |(exfalso;omega)
  |(apply zf5;exact rfl;exact zar hT rfl rfl mem0 rfl;exact rfl
    refine⟨?_,dX⟩
    show Value.tuple #[.agg (List.toArray [.int .u64 _,.int .u64 _]),.bool true]=_
    rw[gotW,zeT (n:=m+n) (by omega) (by omega)])
theorem div2 (a j:Nat):a / 2^j=2*(a / 2^(j+1))+(a / 2^j)%2:=by
 have:a / 2^(j+1)=a / 2^j / 2:=by rw[Nat.pow_succ,Nat.div_div_eq_div_mul]
 omega
theorem ze7 (W:World)(a b:Nat)(ha:a≤9223372036854775807)(hb:b≤9223372036854775807):
 zaC Tryz.prog W 30 [.int .i64 a,.int .i64 b] [] (gotW (some (a*b))):=by
 refine zaC.ofD (fun h' hs=> ?_)
 have hle:∀j,(a / 2^j)*b≤85070591730234615847396907784232501249:=fun j=>Nat.mul_le_mul (Nat.le_trans (Nat.div_le_self _ _) ha) hb
 refine zau Tryz.func30 rfl rfl Tryz.results30 Tryz.ntmps30 rfl rfl ?_
 repeat' (first
  |apply zaA|apply zaa|apply zaz|apply zam|apply zan|apply zae|apply zay
  |(apply zaj hT;(iterate 4 exact rfl))|(apply zak;(iterate 3 exact rfl))|(apply zad;(iterate 2 exact rfl))
  |(apply zax hT;(iterate 4 exact rfl);(iterate 2 (first|omega|(dsimp only;omega))))
  |(apply zas [] [] hmix;decide+kernel)
  |(apply zac hT;(iterate 5 exact rfl);intro g4)
  |(apply zbI hT;(iterate 4 exact rfl))
  |(apply zaQ hT;(iterate 6 exact rfl);exact sX;(iterate 3 exact rfl);exact Nat.le_of_ble_eq_true rfl)
  |(apply zab;(iterate 5 exact rfl);first|(apply zat hT;exact rfl;exact rfl;(repeat(first|exact List.mem_cons_self|apply List.mem_cons_of_mem|apply List.mem_append_right));exact rfl;exact rfl)|(apply zar hT;exact rfl;exact rfl;(repeat(first|exact List.mem_cons_self|apply List.mem_cons_of_mem|apply List.mem_append_right));exact rfl))
  |(apply zav;(iterate 5 exact rfl);intro _)|(apply zac hT;(iterate 5 exact rfl);intro _)
  |(apply zaf;(iterate 2 exact rfl))|(apply zag;(iterate 2 exact rfl))
  |(apply zal;exact rfl;all_goals intro hb;all_goals(fail_if_success (change true=true at hb));all_goals(fail_if_success (change false=false at hb));all_goals(try dsimp only at hb);all_goals(try simp only[hb]);all_goals(first|replace hb:=of_decide_eq_true hb|replace hb:=of_decide_eq_false hb|replace hb:=zap hb|replace hb:=zaq hb|replace hb:=eq_of_beq hb|replace hb:=ne_of_beq_false hb|skip);all_goals(try(exfalso;omega)))
  |(apply zao;exact rfl;all_goals intro hb;all_goals(try dsimp only at hb);all_goals(try simp only[hb]);all_goals(first|replace hb:=of_decide_eq_true hb|replace hb:=of_decide_eq_false hb|replace hb:=zap hb|replace hb:=zaq hb|replace hb:=eq_of_beq hb|replace hb:=ne_of_beq_false hb|skip);all_goals(try(exfalso;omega))))
 all_goals try(exfalso;omega)
 rename_i g6
 refine zcc (α:=Nat) (E:=fun j=>[(0,.int .i64 a),(1,.int .i64 b),(4,.pointer (some ⟨g6,0,none⟩)),(6,.pointer (some ⟨g4,0,none⟩)),(7,.int .i64 ((j:Int) - 1))])
  (H:=fun j=>.blk g4 75 (zda ((a / 2^j)*b))::.blk g6 75 (zda 0)::h') (μ:=fun j=>j)
  (S:=fun j=>j≤63) 63 (J:=[]) (Nat.le_refl _) ⟨rfl,rfl,rfl,rfl,rfl,trivial⟩ ?_ ?_
 ·have e:a / 2^63=0:=Nat.div_eq_of_lt (by omega)
  rw[e,Nat.zero_mul]
  exact plr _
 ·intro j hj
  cases j with
  |zero=>
   have hd1:decide (((0:Nat):Int) - 1≥0)=false:=by decide
   rw[Nat.pow_zero,Nat.div_one]
   repeat' (first
    |apply zaA|apply zaa|apply zaz|apply zam|apply zan|apply zae|apply zay
    |(apply zaj hT;(iterate 4 exact rfl))|(apply zak;(iterate 3 exact rfl))|(apply zad;(iterate 2 exact rfl))
    |(apply zax hT;(iterate 4 exact rfl);(iterate 2 (first|omega|(dsimp only;omega))))
    |(apply zas [] [] hmix;decide+kernel)
    |(apply zaQ hT;(iterate 6 exact rfl);exact sX;(iterate 3 exact rfl);exact Nat.le_of_ble_eq_true rfl)
    |(apply zab;(iterate 5 exact rfl);first|(apply zat hT;exact rfl;exact rfl;(repeat(first|exact List.mem_cons_self|apply List.mem_cons_of_mem|apply List.mem_append_right));exact rfl;exact rfl)|(apply zar hT;exact rfl;exact rfl;(repeat(first|exact List.mem_cons_self|apply List.mem_cons_of_mem|apply List.mem_append_right));exact rfl))
    |(apply zav;(iterate 5 exact rfl);intro _)|(apply zac hT;(iterate 5 exact rfl);intro _)
    |(apply zaf;(iterate 2 exact rfl))|(apply zag;(iterate 2 exact rfl))
    |(apply zal;exact rfl;all_goals intro hb;all_goals(fail_if_success (change true=true at hb));all_goals(fail_if_success (change false=false at hb));all_goals(try dsimp only at hb);all_goals(try simp only[hb]);all_goals(first|replace hb:=of_decide_eq_true hb|replace hb:=of_decide_eq_false hb|replace hb:=zap hb|replace hb:=zaq hb|replace hb:=eq_of_beq hb|replace hb:=ne_of_beq_false hb|skip);all_goals(try(exfalso;omega)))
    |(apply zao;exact rfl;all_goals intro hb;all_goals(try dsimp only at hb);all_goals(try simp only[hb]);all_goals(first|replace hb:=of_decide_eq_true hb|replace hb:=of_decide_eq_false hb|replace hb:=zap hb|replace hb:=zaq hb|replace hb:=eq_of_beq hb|replace hb:=ne_of_beq_false hb|skip);all_goals(try(exfalso;omega))))
   all_goals first
    |(exfalso;omega)
    |(apply zf5;exact rfl;exact zar hT rfl rfl mem1 rfl;exact rfl
      exact⟨rfl,dX⟩)
    |(apply zf5;exact rfl;exact zar hT rfl rfl mem0 rfl;exact rfl
      exact⟨rfl,dX⟩)
  |succ k=>
   have e:((k+1:Nat):Int) - 1=k:=by omega
   rw[e]
   have hl1:=hle (k+1)
   have hl0:=hle k
   have hdv:=div2 a k
   have hd0:(a:Int) / ((2^k:Nat):Int)=((a / 2^k:Nat):Int):=(Int.natCast_ediv a (2^k)).symm
   have hka:a / 2^k≤a:=Nat.div_le_self _ _
   have hstep:(a / 2^k)*b=(a / 2^(k+1))*b+(a / 2^(k+1))*b+(a / 2^k%2)*b:=by
    conv=>lhs;rw[hdv]
    rw[Nat.add_mul,Nat.mul_assoc,Nat.two_mul]
   generalize hq:a / 2^k=q at hd0 hka hstep hl0 hdv ⊢
   generalize (a / 2^(k+1))*b=v at hl1 hstep ⊢
   have hp1:=zdZ W v v (by omega)
   have hp2:zaC Tryz.prog W 69 [.agg (zda (v+v)).toArray,.agg #[.int .u64 0,.int .u64 b]] [] (gotW (some (v+v+b))):=by
    have:=zdZ W (v+v) b (by omega)
    rw[←zeT (n:=b) (x:=0) (y:=b) (by omega) (by omega)]at this
    exact this
   repeat' (first
    |apply zaA|apply zaa|apply zaz|apply zam|apply zan|apply zae|apply zay
    |(apply zaj hT;(iterate 4 exact rfl))|(apply zak;(iterate 3 exact rfl))|(apply zad;(iterate 2 exact rfl))
    |(apply zax hT;(iterate 4 exact rfl);(iterate 2 (first|omega|(dsimp only;omega))))
    |(apply zas [] [] hmix;decide+kernel)
    |(apply zaw (hs:=(hp1.mono (by simp)));(iterate 7 exact rfl))
    |(apply zaw (hs:=(hp2.mono (by simp)));(iterate 7 exact rfl))
    |(apply zgA hT;(iterate 4 exact rfl);(iterate 2 omega))
    |(apply zg6;(iterate 6 exact rfl);omega;rw[hd0])
    |(apply zg7;(iterate 5 exact rfl);(iterate 2 omega))
    |(apply zbI hT;(iterate 4 exact rfl))
    |(apply zaQ hT;(iterate 6 exact rfl);exact sX;(iterate 3 exact rfl);exact Nat.le_of_ble_eq_true rfl)
    |(apply zab;(iterate 5 exact rfl);first|(apply zat hT;exact rfl;exact rfl;(repeat(first|exact List.mem_cons_self|apply List.mem_cons_of_mem|apply List.mem_append_right));exact rfl;exact rfl)|(apply zar hT;exact rfl;exact rfl;(repeat(first|exact List.mem_cons_self|apply List.mem_cons_of_mem|apply List.mem_append_right));exact rfl))
    |(apply zav;(iterate 5 exact rfl);intro _)|(apply zac hT;(iterate 5 exact rfl);intro _)
    |(apply zaf;(iterate 2 exact rfl))|(apply zag;(iterate 2 exact rfl))
    |(apply zal;exact rfl;all_goals intro hb;all_goals(fail_if_success (change true=true at hb));all_goals(fail_if_success (change false=false at hb));all_goals(try dsimp only at hb);all_goals(try simp only[hb]);all_goals(first|replace hb:=of_decide_eq_true hb|replace hb:=of_decide_eq_false hb|replace hb:=zap hb|replace hb:=zaq hb|replace hb:=eq_of_beq hb|replace hb:=ne_of_beq_false hb|skip);all_goals(try(exfalso;omega)))
    |(apply zao;exact rfl;all_goals intro hb;all_goals(try dsimp only at hb);all_goals(try simp only[hb]);all_goals(first|replace hb:=of_decide_eq_true hb|replace hb:=of_decide_eq_false hb|replace hb:=zap hb|replace hb:=zaq hb|replace hb:=eq_of_beq hb|replace hb:=ne_of_beq_false hb|skip);all_goals(try(exfalso;omega))))
   all_goals first
    |(exfalso;omega)
    |(refine zaO k (by(try dsimp only);omega) (by(try dsimp only);omega) ⟨rfl,rfl,rfl,rfl,rfl,trivial⟩ ?_
      have hs2:(a / 2^k)*b=v+v+b:=by rw[hq,hstep,show q%2=1 by omega,Nat.one_mul]
      (try dsimp only)
      rw[hs2]
      exact zbi)
    |(refine zaO k (by(try dsimp only);omega) (by(try dsimp only);omega) ⟨rfl,rfl,rfl,rfl,rfl,trivial⟩ ?_
      have hs2:(a / 2^k)*b=v+v:=by rw[hq,hstep,show q%2=0 by omega,Nat.zero_mul,Nat.add_zero]
      (try dsimp only)
      rw[hs2]
      exact zbi)
    |skip
end Go.Proofs.YteocfhdocpeokaaGreat
set_option linter.unusedSimpArgs false
set_option linter.unusedVariables false
namespace Go.Proofs.YteocfhdocpeokaaGreat
open Go Go.Sl
attribute [local irreducible] AW ES EP Ld RetQ
set_option maxRecDepth 100000
def okI (n:Int):Value:=.tuple #[.int .i64 (if inI n then n else 0),.bool (inI n)]
theorem zeU (W:World)(a b:Int)(ha:inW a)(hb:inW b):zaC Tryz.prog W 27 [.int .i64 a,.int .i64 b] [] (okI (a+b)):=by
 unfold inW at*
 refine zaC.ofD (fun h' hs=> ?_)
 unfold okI
 cases hI:inI (a+b)
 ·have hr:=ze5 hI
  refine zau Tryz.func27 rfl rfl Tryz.results27 Tryz.ntmps27 rfl rfl ?_
  repeat' (first
   |apply zaA|apply zaa|apply zaz|apply zam|apply zan|apply zae|apply zay
   |(apply zaj hT;(iterate 4 exact rfl))|(apply zak;(iterate 3 exact rfl))|(apply zad;(iterate 2 exact rfl))
   |(apply zax hT;(iterate 4 exact rfl);(iterate 2 (first|omega|(dsimp only;omega))))
   |(apply zas [] [] hmix;decide+kernel)
   |(apply zab;(iterate 5 exact rfl);first|(apply zat hT;exact rfl;exact rfl;(repeat(first|exact List.mem_cons_self|apply List.mem_cons_of_mem|apply List.mem_append_right));exact rfl;exact rfl)|(apply zar hT;exact rfl;exact rfl;(repeat(first|exact List.mem_cons_self|apply List.mem_cons_of_mem|apply List.mem_append_right));exact rfl))
   |(apply zav;(iterate 5 exact rfl);intro _)|(apply zac hT;(iterate 5 exact rfl);intro _)
   |(apply zaf;(iterate 2 exact rfl))|(apply zag;(iterate 2 exact rfl))
   |(apply zal;exact rfl;all_goals intro hb;all_goals(fail_if_success (change true=true at hb));all_goals(fail_if_success (change false=false at hb));all_goals(try dsimp only at hb);all_goals(try simp only[hb]);all_goals(first|replace hb:=of_decide_eq_true hb|replace hb:=of_decide_eq_false hb|replace hb:=zap hb|replace hb:=zaq hb|replace hb:=eq_of_beq hb|replace hb:=ne_of_beq_false hb|skip);all_goals(try(exfalso;omega)))
   |(apply zao;exact rfl;all_goals intro hb;all_goals(try dsimp only at hb);all_goals(try simp only[hb]);all_goals(first|replace hb:=of_decide_eq_true hb|replace hb:=of_decide_eq_false hb|replace hb:=zap hb|replace hb:=zaq hb|replace hb:=eq_of_beq hb|replace hb:=ne_of_beq_false hb|skip);all_goals(try(exfalso;omega))))
  all_goals first
   |(exfalso;omega)
   |(apply ret2;exact rfl;exact rfl;exact⟨rfl,dX⟩)
   |skip
 ·have hr:=zcT hI
  refine zau Tryz.func27 rfl rfl Tryz.results27 Tryz.ntmps27 rfl rfl ?_
  repeat' (first
   |apply zaA|apply zaa|apply zaz|apply zam|apply zan|apply zae|apply zay
   |(apply zaj hT;(iterate 4 exact rfl))|(apply zak;(iterate 3 exact rfl))|(apply zad;(iterate 2 exact rfl))
   |(apply zax hT;(iterate 4 exact rfl);(iterate 2 (first|omega|(dsimp only;omega))))
   |(apply zas [] [] hmix;decide+kernel)
   |(apply zab;(iterate 5 exact rfl);first|(apply zat hT;exact rfl;exact rfl;(repeat(first|exact List.mem_cons_self|apply List.mem_cons_of_mem|apply List.mem_append_right));exact rfl;exact rfl)|(apply zar hT;exact rfl;exact rfl;(repeat(first|exact List.mem_cons_self|apply List.mem_cons_of_mem|apply List.mem_append_right));exact rfl))
   |(apply zav;(iterate 5 exact rfl);intro _)|(apply zac hT;(iterate 5 exact rfl);intro _)
   |(apply zaf;(iterate 2 exact rfl))|(apply zag;(iterate 2 exact rfl))
   |(apply zal;exact rfl;all_goals intro hb;all_goals(fail_if_success (change true=true at hb));all_goals(fail_if_success (change false=false at hb));all_goals(try dsimp only at hb);all_goals(try simp only[hb]);all_goals(first|replace hb:=of_decide_eq_true hb|replace hb:=of_decide_eq_false hb|replace hb:=zap hb|replace hb:=zaq hb|replace hb:=eq_of_beq hb|replace hb:=ne_of_beq_false hb|skip);all_goals(try(exfalso;omega)))
   |(apply zao;exact rfl;all_goals intro hb;all_goals(try dsimp only at hb);all_goals(try simp only[hb]);all_goals(first|replace hb:=of_decide_eq_true hb|replace hb:=of_decide_eq_false hb|replace hb:=zap hb|replace hb:=zaq hb|replace hb:=eq_of_beq hb|replace hb:=ne_of_beq_false hb|skip);all_goals(try(exfalso;omega))))
  all_goals first
   |(exfalso;omega)
   |(apply ret2;exact rfl;exact rfl;exact⟨rfl,dX⟩)
   |skip
theorem zeV (W:World)(a b:Int)(ha:inW a)(hb:inW b):zaC Tryz.prog W 28 [.int .i64 a,.int .i64 b] [] (okI (a - b)):=by
 unfold inW at*
 refine zaC.ofD (fun h' hs=> ?_)
 unfold okI
 cases hI:inI (a - b)
 ·have hr:=ze5 hI
  refine zau Tryz.func28 rfl rfl Tryz.results28 Tryz.ntmps28 rfl rfl ?_
  repeat' (first
   |apply zaA|apply zaa|apply zaz|apply zam|apply zan|apply zae|apply zay
   |(apply zaj hT;(iterate 4 exact rfl))|(apply zak;(iterate 3 exact rfl))|(apply zad;(iterate 2 exact rfl))
   |(apply zax hT;(iterate 4 exact rfl);(iterate 2 (first|omega|(dsimp only;omega))))
   |(apply zas [] [] hmix;decide+kernel)
   |(apply zab;(iterate 5 exact rfl);first|(apply zat hT;exact rfl;exact rfl;(repeat(first|exact List.mem_cons_self|apply List.mem_cons_of_mem|apply List.mem_append_right));exact rfl;exact rfl)|(apply zar hT;exact rfl;exact rfl;(repeat(first|exact List.mem_cons_self|apply List.mem_cons_of_mem|apply List.mem_append_right));exact rfl))
   |(apply zav;(iterate 5 exact rfl);intro _)|(apply zac hT;(iterate 5 exact rfl);intro _)
   |(apply zaf;(iterate 2 exact rfl))|(apply zag;(iterate 2 exact rfl))
   |(apply zal;exact rfl;all_goals intro hb;all_goals(fail_if_success (change true=true at hb));all_goals(fail_if_success (change false=false at hb));all_goals(try dsimp only at hb);all_goals(try simp only[hb]);all_goals(first|replace hb:=of_decide_eq_true hb|replace hb:=of_decide_eq_false hb|replace hb:=zap hb|replace hb:=zaq hb|replace hb:=eq_of_beq hb|replace hb:=ne_of_beq_false hb|skip);all_goals(try(exfalso;omega)))
   |(apply zao;exact rfl;all_goals intro hb;all_goals(try dsimp only at hb);all_goals(try simp only[hb]);all_goals(first|replace hb:=of_decide_eq_true hb|replace hb:=of_decide_eq_false hb|replace hb:=zap hb|replace hb:=zaq hb|replace hb:=eq_of_beq hb|replace hb:=ne_of_beq_false hb|skip);all_goals(try(exfalso;omega))))
  all_goals first
   |(exfalso;omega)
   |(apply ret2;exact rfl;exact rfl;exact⟨rfl,dX⟩)
   |skip
 ·have hr:=zcT hI
  refine zau Tryz.func28 rfl rfl Tryz.results28 Tryz.ntmps28 rfl rfl ?_
  repeat' (first
   |apply zaA|apply zaa|apply zaz|apply zam|apply zan|apply zae|apply zay
   |(apply zaj hT;(iterate 4 exact rfl))|(apply zak;(iterate 3 exact rfl))|(apply zad;(iterate 2 exact rfl))
   |(apply zax hT;(iterate 4 exact rfl);(iterate 2 (first|omega|(dsimp only;omega))))
   |(apply zas [] [] hmix;decide+kernel)
   |(apply zab;(iterate 5 exact rfl);first|(apply zat hT;exact rfl;exact rfl;(repeat(first|exact List.mem_cons_self|apply List.mem_cons_of_mem|apply List.mem_append_right));exact rfl;exact rfl)|(apply zar hT;exact rfl;exact rfl;(repeat(first|exact List.mem_cons_self|apply List.mem_cons_of_mem|apply List.mem_append_right));exact rfl))
   |(apply zav;(iterate 5 exact rfl);intro _)|(apply zac hT;(iterate 5 exact rfl);intro _)
   |(apply zaf;(iterate 2 exact rfl))|(apply zag;(iterate 2 exact rfl))
   |(apply zal;exact rfl;all_goals intro hb;all_goals(fail_if_success (change true=true at hb));all_goals(fail_if_success (change false=false at hb));all_goals(try dsimp only at hb);all_goals(try simp only[hb]);all_goals(first|replace hb:=of_decide_eq_true hb|replace hb:=of_decide_eq_false hb|replace hb:=zap hb|replace hb:=zaq hb|replace hb:=eq_of_beq hb|replace hb:=ne_of_beq_false hb|skip);all_goals(try(exfalso;omega)))
   |(apply zao;exact rfl;all_goals intro hb;all_goals(try dsimp only at hb);all_goals(try simp only[hb]);all_goals(first|replace hb:=of_decide_eq_true hb|replace hb:=of_decide_eq_false hb|replace hb:=zap hb|replace hb:=zaq hb|replace hb:=eq_of_beq hb|replace hb:=ne_of_beq_false hb|skip);all_goals(try(exfalso;omega))))
  all_goals first
   |(exfalso;omega)
   |(apply ret2;exact rfl;exact rfl;exact⟨rfl,dX⟩)
   |skip
theorem ze8 (W:World)(n:Nat)(hn:n<340282366920938463463374607431768211456):zaC Tryz.prog W 26 [.agg (zda n).toArray] [] (okI n):=by
 refine zaC.ofD (fun h' hs=> ?_)
 unfold okI
 cases hI:inI (n:Int)
 ·have hr:=ze5 hI
  refine zau Tryz.func26 rfl rfl Tryz.results26 Tryz.ntmps26 rfl rfl ?_
  repeat' (first
   |apply zaA|apply zaa|apply zaz|apply zam|apply zan|apply zae|apply zay
   |(apply zaj hT;(iterate 4 exact rfl))|(apply zak;(iterate 3 exact rfl))|(apply zad;(iterate 2 exact rfl))
   |(apply zax hT;(iterate 4 exact rfl);(iterate 2 (first|omega|(dsimp only;omega))))
   |(apply zas [] [] hmix;decide+kernel)
   |(apply zab;(iterate 5 exact rfl);first|(apply zat hT;exact rfl;exact rfl;(repeat(first|exact List.mem_cons_self|apply List.mem_cons_of_mem|apply List.mem_append_right));exact rfl;exact rfl)|(apply zar hT;exact rfl;exact rfl;(repeat(first|exact List.mem_cons_self|apply List.mem_cons_of_mem|apply List.mem_append_right));exact rfl))
   |(apply zav;(iterate 5 exact rfl);intro _)|(apply zac hT;(iterate 5 exact rfl);intro _)
   |(apply zaf;(iterate 2 exact rfl))|(apply zag;(iterate 2 exact rfl))
   |(apply zal;exact rfl;all_goals intro hb;all_goals(fail_if_success (change true=true at hb));all_goals(fail_if_success (change false=false at hb));all_goals(try dsimp only at hb);all_goals(try simp only[hb]);all_goals(first|replace hb:=of_decide_eq_true hb|replace hb:=of_decide_eq_false hb|replace hb:=zap hb|replace hb:=zaq hb|replace hb:=eq_of_beq hb|replace hb:=ne_of_beq_false hb|skip);all_goals(try(exfalso;omega)))
   |(apply zao;exact rfl;all_goals intro hb;all_goals(try dsimp only at hb);all_goals(try simp only[hb]);all_goals(first|replace hb:=of_decide_eq_true hb|replace hb:=of_decide_eq_false hb|replace hb:=zap hb|replace hb:=zaq hb|replace hb:=eq_of_beq hb|replace hb:=ne_of_beq_false hb|skip);all_goals(try(exfalso;omega))))
  all_goals first
   |(exfalso;omega)
   |(apply ret2;exact rfl;exact rfl;exact⟨rfl,dX⟩)
   |skip
 ·have hr:=zcT hI
  refine zau Tryz.func26 rfl rfl Tryz.results26 Tryz.ntmps26 rfl rfl ?_
  repeat' (first
   |apply zaA|apply zaa|apply zaz|apply zam|apply zan|apply zae|apply zay
   |(apply zaj hT;(iterate 4 exact rfl))|(apply zak;(iterate 3 exact rfl))|(apply zad;(iterate 2 exact rfl))
   |(apply zax hT;(iterate 4 exact rfl);(iterate 2 (first|omega|(dsimp only;omega))))
   |(apply zas [] [] hmix;decide+kernel)
   |(apply zab;(iterate 5 exact rfl);first|(apply zat hT;exact rfl;exact rfl;(repeat(first|exact List.mem_cons_self|apply List.mem_cons_of_mem|apply List.mem_append_right));exact rfl;exact rfl)|(apply zar hT;exact rfl;exact rfl;(repeat(first|exact List.mem_cons_self|apply List.mem_cons_of_mem|apply List.mem_append_right));exact rfl))
   |(apply zav;(iterate 5 exact rfl);intro _)|(apply zac hT;(iterate 5 exact rfl);intro _)
   |(apply zaf;(iterate 2 exact rfl))|(apply zag;(iterate 2 exact rfl))
   |(apply zal;exact rfl;all_goals intro hb;all_goals(fail_if_success (change true=true at hb));all_goals(fail_if_success (change false=false at hb));all_goals(try dsimp only at hb);all_goals(try simp only[hb]);all_goals(first|replace hb:=of_decide_eq_true hb|replace hb:=of_decide_eq_false hb|replace hb:=zap hb|replace hb:=zaq hb|replace hb:=eq_of_beq hb|replace hb:=ne_of_beq_false hb|skip);all_goals(try(exfalso;omega)))
   |(apply zao;exact rfl;all_goals intro hb;all_goals(try dsimp only at hb);all_goals(try simp only[hb]);all_goals(first|replace hb:=of_decide_eq_true hb|replace hb:=of_decide_eq_false hb|replace hb:=zap hb|replace hb:=zaq hb|replace hb:=eq_of_beq hb|replace hb:=ne_of_beq_false hb|skip);all_goals(try(exfalso;omega))))
  all_goals first
   |(exfalso;omega)
   |(apply ret2;exact rfl;exact rfl;exact⟨by simp[Nat.mod_eq_of_lt (show n<18446744073709551616 by omega)],dX⟩)
   |skip
end Go.Proofs.YteocfhdocpeokaaGreat
set_option linter.unusedSimpArgs false
set_option linter.unusedVariables false
namespace Go.Sl
open Go Go.RowKit
variable {P : Program} {W : World} {h h' F : List zah}
theorem zaE.enc {α:Type}{enc:α→List Value}{k:Nat}(hk:∀x,(enc x).length=k)(h1:∀x,∀v∈enc x,v.oneCell'=true){A:Option Addr}{n c:Nat}{t:TypeId}{l:List α}(hm:zah.own A n c t k (l.flatMap enc)∈h)(hn:l.length=n):zaE W h A n k (l.flatMap enc):=
 zaE.own hm (by rw[zbW hk,hn]) (fun v hv=>by
  obtain⟨y,_,hy⟩:=List.mem_flatMap.1 hv
  exact h1 y v hy)
theorem zaE.ints {A:Option Addr}{n c:Nat}{t:TypeId}{kd:IntKind}{l:List Int}(hm:zah.own A n c t 1 (l.map (Value.int kd))∈h)(hn:l.length=n):zaE W h A n 1 (l.map (Value.int kd)):=
 zaE.own hm (by simp[hn]) (fun v hv=>by
  obtain⟨y,_,rfl⟩:=lmm.1 hv
  rfl)
theorem zes {x:zah}(hx:x∈h):∀c∈[x],c∈h:=fun c hc=>by
 rw[lms.1 hc];exact hx
theorem zgT {x y:zah}(hx:x∈h)(hy:y∈h):∀c∈[x,y],c∈h:=fun c hc=>by
 rcases List.mem_cons.1 hc with rfl|hc
 ·exact hx
 ·exact zes hy c hc
theorem ze9 {x y z:zah}(hx:x∈h)(hy:y∈h)(hz:z∈h):∀c∈[x,y,z],c∈h:=fun c hc=>by
 rcases List.mem_cons.1 hc with rfl|hc
 ·exact hx
 ·exact zgT hy hz c hc
/-- a value of a row of single numbers -/
theorem zcW {kd:IntKind}{l:List Int}{i:Nat}{n:Int}(h:l[i]? =some n):(l.map (Value.int kd))[i*1]? =some (.int kd n):=by simp[h]
theorem zgc {cs:List Value}{i:Nat}{v:Value}(h:i<cs.length):lay cs (i*1) [v]=cs.set i v:=by
 rw[Nat.mul_one];exact zfs (by omega)
end Go.Sl
set_option linter.unusedSimpArgs false
set_option linter.unusedVariables false
namespace Go.Proofs.YteocfhdocpeokaaGreat
open Go Go.Sl
attribute [local irreducible] AW ES EP Ld RetQ
set_option maxRecDepth 100000
def psOf (cash:List Int)(rs:List PRow):Ps:=⟨cash,rs.map PRow.l⟩
theorem zcX {cash:List Int}{rs:List PRow}(who bond:Int):zbQ cash rs who bond=zbh (psOf cash rs) who bond:=by
 unfold zbQ zbh psOf at0
 by_cases h:0≤who
 ·rw[if_neg (by omega)]
  simp only[List.getElem?_map]
  rcases rs[who.toNat]? with _|r<;>simp
 ·rw[decide_eq_false h];simp
theorem zgd {cash:List Int}{rs:List PRow}(who:Int):zep cash who=za0 (psOf cash rs) who:=by
 unfold zep za0 psOf at0
 dsimp only
 split<;>rfl
theorem zaT {W:World}{h:List zah}{AR:Option Addr}{cR:Nat}{t:TypeId}{rs:List PRow}(hm:zah.own AR rs.length cR t 1 (rs.map PRow.hd)∈h):zaE W h AR rs.length 1 (rs.map PRow.hd):=zaE.own hm (by simp) (fun v hv=>by
 obtain⟨y,_,rfl⟩:=lmm.1 hv
 rfl)
theorem zbJ {rs:List PRow}{i:Nat}{a:PRow}(h:rs[i]? =some a):(rs.map PRow.hd)[i*1]? =some (.slice a.A a.l.length a.c):=by simp[h];rfl
theorem zgD {rs:List PRow}{a:PRow}(h:a∈rs){F:List zah}:zah.own a.A a.l.length a.c 2 1 (a.l.map (Value.int .i64))∈rs.map PRow.ck++F:=List.mem_append_left _ (lmm.2 ⟨a,h,rfl⟩)
structure zis (rs:List PRow)(nb:Nat)(i:Int)(a:PRow):Prop where
 at_:rs[i.toNat]? =some a
 len:a.l.length=nb
 wr:∀n∈a.l,inW n
theorem zck {np nb:Nat}{cash:List Int}{rs:List PRow}(h:PsOK np nb (psOf cash rs)){i:Int}(h0:0≤i)(h1:i<np):∃a,zis rs nb i a:=by
 have hl:rs.length=np:=by have:=h.np;simpa [psOf]using this
 have ha:rs[i.toNat]? =some (rs[i.toNat]'(by omega)):=gge (by omega)
 have hm:(rs[i.toNat]'(by omega)).l∈(psOf cash rs).pos:=lmm.2 ⟨_,List.getElem_mem (by omega),rfl⟩
 exact⟨_,ha,h.row _ hm,h.wr _ hm⟩
theorem zbm {cash:List Int}{rs:List PRow}{i bond:Int}{a:PRow}(h0:0≤i)(ha:rs[i.toNat]? =some a)(hb:0≤bond){n:Int}(hn:a.l[bond.toNat]? =some n):za8 (psOf cash rs) i bond=n:=by
 unfold za8 psOf at0
 rw[if_neg (by omega)]
 simp only[List.getElem?_map,ha,Option.map_some,Option.bind_some]
 rw[if_neg (by omega),hn];rfl
theorem zbk {cash:List Int}{rs:List PRow}{i n:Int}(h0:0≤i)(hn:cash[i.toNat]? =some n):za0 (psOf cash rs) i=n:=by
 unfold za0 psOf at0
 rw[if_neg (by omega)]
 dsimp only
 rw[hn];rfl
theorem zd0 (W:World)(p:Nat)(AC:Option Addr)(cC:Nat)(AR:Option Addr)(cR:Nat)(cash:List Int)(rs:List PRow)(np nb:Nat)(hP:PsOK np nb (psOf cash rs))(who bond:Int):
 zaC Tryz.prog W 35 [.pointer (some ⟨p,0,none⟩),.int .i64 who,.int .i64 bond] (zaM p AC cC AR cR cash rs []) (.int .i64 (za8 (psOf cash rs) who bond)):=by
 refine zaC.ofD (fun h' hs=> ?_)
 have m0:=hs _ mem0
 have m1:=hs _ mem2
 have hck:=fun(a:PRow) (ha:a∈rs)=>hs _ (List.mem_cons_of_mem _ (List.mem_cons_of_mem _ (List.mem_cons_of_mem _ (zgD ha))))
 have hlc:rs.length=cash.length:=by have a1:=hP.nc;have a2:=hP.np;simp[psOf]at a1 a2;omega
 have hI:=(zeQ W p AC cC AR cR cash rs hlc who bond).mono (h':=h') (zcG m0 m1)
 rw[zcX]at hI
 have hrd:=zaT (W:=W) m1
 refine zau Tryz.func35 rfl rfl Tryz.results35 Tryz.ntmps35 rfl rfl ?_
 refine zaK hrd rfl (fun hA=> ?_)
 cases hv:zbh (psOf cash rs) who bond
 ·rw[hv]at hI
  have hz:za8 (psOf cash rs) who bond=0:=by
   unfold za8
   rcases hx:at0 (psOf cash rs).pos who with _|r
   ·rfl
   ·rw[Option.bind_some]
    rcases hy:at0 r bond with _|n
    ·rfl
    ·exfalso
     have h1:=zeS hx
     have h2:=zeS hy
     have h3:=hP.row _ (at0M hx)
     have h4:=hP.np
     have:zbh (psOf cash rs) who bond=true:=(za5 hP).2 ⟨by omega,by omega⟩
     rw[hv]at this;cases this
  rw[hz]
  repeat' (first
   |apply zaA|apply zaa|apply zaz|apply zam|apply zan|apply zae|apply zay
   |(apply zaj hT;(iterate 4 exact rfl))|(apply zak;(iterate 3 exact rfl))|(apply zad;(iterate 2 exact rfl))
   |(apply zax hT;(iterate 4 exact rfl);(iterate 2 (first|omega|(dsimp only;omega))))
   |(apply zas [] [] hmix;decide+kernel)
   |(apply zaw (hs:=(hI.mono (by(intro c hc;(repeat(first|exact hc|apply List.mem_cons_of_mem|apply List.mem_append_right))))));(iterate 7 exact rfl))
   |(apply zab;(iterate 5 exact rfl);first|(apply zat hT;exact rfl;exact rfl;(repeat(first|exact List.mem_cons_self|exact m0|apply List.mem_cons_of_mem|apply List.mem_append_right));exact rfl;exact rfl)|(apply zar hT;exact rfl;exact rfl;(repeat(first|exact List.mem_cons_self|exact m0|apply List.mem_cons_of_mem|apply List.mem_append_right));exact rfl))
   |(apply zav;(iterate 5 exact rfl);intro _)|(apply zac hT;(iterate 5 exact rfl);intro _)
   |(apply zaf;(iterate 2 exact rfl))|(apply zag;(iterate 2 exact rfl))
   |(apply zal;exact rfl;all_goals intro hb;all_goals(fail_if_success (change true=true at hb));all_goals(fail_if_success (change false=false at hb));all_goals(try dsimp only at hb);all_goals(try simp only[hb]);all_goals(first|replace hb:=of_decide_eq_true hb|replace hb:=of_decide_eq_false hb|replace hb:=zap hb|replace hb:=zaq hb|replace hb:=eq_of_beq hb|replace hb:=ne_of_beq_false hb|skip);all_goals(try(exfalso;omega)))
   |(apply zao;exact rfl;all_goals intro hb;all_goals(try dsimp only at hb);all_goals(try simp only[hb]);all_goals(first|replace hb:=of_decide_eq_true hb|replace hb:=of_decide_eq_false hb|replace hb:=zap hb|replace hb:=zaq hb|replace hb:=eq_of_beq hb|replace hb:=ne_of_beq_false hb|skip);all_goals(try(exfalso;omega))))
  all_goals first
   |(exfalso;omega)
   |(apply ret1;exact rfl;exact⟨rfl,dX⟩)
   |skip
 ·obtain⟨⟨w1,w2⟩,b1,b2⟩:=(za5 hP).1 hv
  rw[hv]at hI
  obtain⟨a,ha⟩:=zck hP w1 w2
  have hal:=ha.len
  obtain⟨n,hn⟩:∃n,a.l[bond.toNat]? =some n:=⟨a.l[bond.toNat]'(by omega),gge (by omega)⟩
  rw[zbm w1 ha.at_ b1 hn]
  have hnp:=hP.np
  simp only[psOf,llm]at hnp
  have hA':=hA (by omega)
  have hrda:zaE W h' a.A a.l.length 1 (a.l.map (Value.int .i64)):=zaE.ints (hck a (mog ha.at_)) rfl
  refine zaK hrda rfl (fun hB=> ?_)
  have hB':=hB (by omega)
  have hix:=zbJ ha.at_
  have hiy:=zcW (kd:=.i64) hn
  repeat' (first
   |apply zaA|apply zaa|apply zaz|apply zam|apply zan|apply zae|apply zay
   |(apply zaj hT;(iterate 4 exact rfl))|(apply zak;(iterate 3 exact rfl))|(apply zad;(iterate 2 exact rfl))
   |(apply zax hT;(iterate 4 exact rfl);(iterate 2 (first|omega|(dsimp only;omega))))
   |(apply zas [] [] hmix;decide+kernel)
   |(apply zaw (hs:=(hI.mono (by(intro c hc;(repeat(first|exact hc|apply List.mem_cons_of_mem|apply List.mem_append_right))))));(iterate 7 exact rfl))
   |(apply za4 hT;(iterate 8 exact rfl);(iterate 2 omega);first|exact hA'|exact hB')
   |(apply zab;(iterate 5 exact rfl);first|exact zaY hT rfl rfl hrd rfl hix|exact zaY hT rfl rfl hrda rfl hiy)
   |(apply zab;(iterate 5 exact rfl);first|(apply zat hT;exact rfl;exact rfl;(repeat(first|exact List.mem_cons_self|exact m0|apply List.mem_cons_of_mem|apply List.mem_append_right));exact rfl;exact rfl)|(apply zar hT;exact rfl;exact rfl;(repeat(first|exact List.mem_cons_self|exact m0|apply List.mem_cons_of_mem|apply List.mem_append_right));exact rfl))
   |(apply zav;(iterate 5 exact rfl);intro _)|(apply zac hT;(iterate 5 exact rfl);intro _)
   |(apply zaf;(iterate 2 exact rfl))|(apply zag;(iterate 2 exact rfl))
   |(apply zal;exact rfl;all_goals intro hb;all_goals(fail_if_success (change true=true at hb));all_goals(fail_if_success (change false=false at hb));all_goals(try dsimp only at hb);all_goals(try simp only[hb]);all_goals(first|replace hb:=of_decide_eq_true hb|replace hb:=of_decide_eq_false hb|replace hb:=zap hb|replace hb:=zaq hb|replace hb:=eq_of_beq hb|replace hb:=ne_of_beq_false hb|skip);all_goals(try(exfalso;omega)))
   |(apply zao;exact rfl;all_goals intro hb;all_goals(try dsimp only at hb);all_goals(try simp only[hb]);all_goals(first|replace hb:=of_decide_eq_true hb|replace hb:=of_decide_eq_false hb|replace hb:=zap hb|replace hb:=zaq hb|replace hb:=eq_of_beq hb|replace hb:=ne_of_beq_false hb|skip);all_goals(try(exfalso;omega))))
  all_goals first
   |(exfalso;omega)
   |(apply ret1;exact rfl;exact⟨rfl,dX⟩)
   |skip
theorem zfa (W:World)(F:List zah)(p:Nat)(AC:Option Addr)(cC:Nat)(AR:Option Addr)(cR:Nat)(cash:List Int)(rs:List PRow)(np nb:Nat)(hP:PsOK np nb (psOf cash rs))(t:zaG)
 (hbad:zbh (psOf cash rs) t.buyer t.bond=false∨zbh (psOf cash rs) t.seller t.bond=false∨t.buyer=t.seller∨t.price<1∨t.qty<1):
 zaI Tryz.prog W 8 [.pointer (some ⟨p,0,none⟩),.agg t.enc.toArray] (zaM p AC cC AR cR cash rs F) (fun v h'=>v=.int .i64 1∧h'=zaM p AC cC AR cR cash rs F):=by
 refine zaI.dropTo ?_
 have hnc:=hP.nc
 have hnp:=hP.np
 simp only[psOf,llm]at hnc hnp
 have hlc:rs.length=cash.length:=by omega
 have hI:=fun who bond h' m0 m1=>(zeQ W p AC cC AR cR cash rs hlc who bond).mono (h':=h') (zcG m0 m1)
 simp only[zcX]at hI
 unfold zaM
 have h1:=hI t.buyer t.bond
 have h2:=hI t.seller t.bond
 generalize zbh (psOf cash rs) t.buyer t.bond=b1 at*
 generalize zbh (psOf cash rs) t.seller t.bond=b2 at*
 generalize rs.map PRow.ck++F=G
 refine zau Tryz.func8 rfl rfl Tryz.results8 Tryz.ntmps8 rfl rfl ?_
 repeat' (first
  |apply zaA|apply zaa|apply zaz|apply zam|apply zan|apply zae|apply zay
  |(apply zaj hT;(iterate 4 exact rfl))|(apply zak;(iterate 3 exact rfl))|(apply zad;(iterate 2 exact rfl))
  |(apply zax hT;(iterate 4 exact rfl);(iterate 2 (first|omega|(dsimp only;omega))))
  |(apply zas [] [] hmix;decide+kernel)
  |(apply zav;(iterate 5 exact rfl);intro g3)
  |(apply zaw (hs:=(h1 _ (by(repeat(first|exact List.mem_cons_self|apply List.mem_cons_of_mem|apply List.mem_append_right))) (by(repeat(first|exact List.mem_cons_self|apply List.mem_cons_of_mem|apply List.mem_append_right)))));(iterate 7 exact rfl))
  |(apply zaw (hs:=(h2 _ (by(repeat(first|exact List.mem_cons_self|apply List.mem_cons_of_mem|apply List.mem_append_right))) (by(repeat(first|exact List.mem_cons_self|apply List.mem_cons_of_mem|apply List.mem_append_right)))));(iterate 7 exact rfl))
  |(apply zab;(iterate 5 exact rfl);first|(apply zat hT;exact rfl;exact rfl;(repeat(first|exact List.mem_cons_self|apply List.mem_cons_of_mem|apply List.mem_append_right));exact rfl;exact rfl)|(apply zar hT;exact rfl;exact rfl;(repeat(first|exact List.mem_cons_self|apply List.mem_cons_of_mem|apply List.mem_append_right));exact rfl))
  |(apply zav;(iterate 5 exact rfl);intro _)|(apply zac hT;(iterate 5 exact rfl);intro _)
  |(apply zaf;(iterate 2 exact rfl))|(apply zag;(iterate 2 exact rfl))
  |(apply zal;exact rfl;all_goals intro hb;all_goals(fail_if_success (change true=true at hb));all_goals(fail_if_success (change false=false at hb));all_goals(try dsimp only at hb);all_goals(try simp only[hb]);all_goals(first|replace hb:=of_decide_eq_true hb|replace hb:=of_decide_eq_false hb|replace hb:=zap hb|replace hb:=zaq hb|replace hb:=eq_of_beq hb|replace hb:=ne_of_beq_false hb|skip);all_goals(try(exfalso;omega)))
  |(apply zao;exact rfl;all_goals intro hb;all_goals(try dsimp only at hb);all_goals(try simp only[hb]);all_goals(first|replace hb:=of_decide_eq_true hb|replace hb:=of_decide_eq_false hb|replace hb:=zap hb|replace hb:=zaq hb|replace hb:=eq_of_beq hb|replace hb:=ne_of_beq_false hb|skip);all_goals(try(exfalso;omega))))
 all_goals first
  |(exfalso;omega)
  |(exfalso;simp_all;done)
  |(apply ret1;exact rfl;exact⟨_,by(show zaL _ (_::_::_::G));exact dX,rfl,rfl⟩)
  |skip
theorem zb8 (x:Int):∃y f,okI x=.tuple #[.int .i64 y,.bool f]∧inW y∧inI x=f∧(f=true→y=x):=by
 refine⟨if inI x then x else 0,inI x,rfl,?_,rfl,fun h=>by rw[if_pos h]⟩
 split
 ·rename_i h;exact zcT h
 ·unfold inW;omega
theorem zbT {l:List Int}{i:Nat}{n:Int}{k:IntKind}(h:i<l.length):lay (l.map (Value.int k)) (i*1) (Value.cells (.int k n)).toList=(l.set i n).map (Value.int k):=by
 show lay _ _ [.int k n]=_
 rw[zgc (by simpa using h),List.map_set]
theorem zcl {l:List (List Int)}{who bond n:Int}{r:List Int}(h:at0 l who=some r):setRow l who bond n=l.set who.toNat (r.set bond.toNat n):=by
 unfold setRow
 rw[h];rfl
theorem zfx (W:World)(F:List zah)(p:Nat)(AC:Option Addr)(cC:Nat)(AR:Option Addr)(cR:Nat)(cash:List Int)(rs:List PRow)(np nb:Nat)(hP:PsOK np nb (psOf cash rs))(t:zaG)(hpr:inW t.price)(hqt:inW t.qty)
 (hbad:¬(zbh (psOf cash rs) t.buyer t.bond=false∨zbh (psOf cash rs) t.seller t.bond=false∨t.buyer=t.seller∨t.price<1∨t.qty<1)):
 zaI Tryz.prog W 8 [.pointer (some ⟨p,0,none⟩),.agg t.enc.toArray] (zaM p AC cC AR cR cash rs F) (fun v h'=>v=.int .i64 (putE (psOf cash rs) t)∧∃cash' rs',psOf cash' rs'=putP (psOf cash rs) t∧h'=zaM p AC cC AR cR cash' rs' F):=by
 refine zaI.dropTo ?_
 have hnc:=hP.nc
 have hnp:=hP.np
 simp only[psOf,llm]at hnc hnp
 have hlc:rs.length=cash.length:=by omega
 have hI:=fun who bond h' m0 m1=>(zeQ W p AC cC AR cR cash rs hlc who bond).mono (h':=h') (zcG m0 m1)
 simp only[zcX]at hI
 have h1:=hI t.buyer t.bond
 have h2:=hI t.seller t.bond
 have hbad':=hbad
 simp only[not_or,Bool.not_eq_false]at hbad'
 obtain⟨hb1,hb2,hne,hp1,hq1⟩:=hbad'
 rw[hb1]at h1
 rw[hb2]at h2
 obtain⟨⟨x1,x2⟩,x3,x4⟩:=(za5 hP).1 hb1
 obtain⟨⟨y1,y2⟩,_,_⟩:=(za5 hP).1 hb2
 obtain⟨a,ha⟩:=zck hP x1 x2
 obtain⟨b,hb⟩:=zck hP y1 y2
 have hal:=ha.len
 have hbl:=hb.len
 obtain⟨nB,hnB⟩:∃n,a.l[t.bond.toNat]? =some n:=⟨a.l[t.bond.toNat]'(by omega),gge (by omega)⟩
 obtain⟨nS,hnS⟩:∃n,b.l[t.bond.toNat]? =some n:=⟨b.l[t.bond.toNat]'(by omega),gge (by omega)⟩
 obtain⟨cB,hcB⟩:∃n,cash[t.buyer.toNat]? =some n:=⟨cash[t.buyer.toNat]'(by omega),gge (by omega)⟩
 obtain⟨cS,hcS⟩:∃n,cash[t.seller.toNat]? =some n:=⟨cash[t.seller.toNat]'(by omega),gge (by omega)⟩
 have wnB:=ha.wr _ (mog hnB)
 have wnS:=hb.wr _ (mog hnS)
 have wcB:=hP.wc _ (mog hcB)
 have wcS:=hP.wc _ (mog hcS)
 obtain⟨X,hX⟩:=Int.eq_ofNat_of_zero_le (show 0≤t.price by omega)
 obtain⟨Q,hQ⟩:=Int.eq_ofNat_of_zero_le (show 0≤t.qty by omega)
 unfold inW at hpr hqt
 have hTm:=zfw W X Q (by omega) (by omega)
 rw[←hX,←hQ]at hTm
 have hXQ:X*Q<340282366920938463463374607431768211456:=by
  have:X*Q≤9223372036854775807*9223372036854775807:=Nat.mul_le_mul (by omega) (by omega)
  omega
 have hNr:=ze8 W (X*Q) hXQ
 have hcost:t.price*t.qty=((X*Q:Nat):Int):=by rw[hX,hQ];simp
 obtain⟨v1,f1,e1,w1,g1,k1⟩:=zb8 ((X*Q:Nat):Int)
 rw[e1]at hNr
 have hA2:=zeU W nB t.qty wnB (by unfold inW;omega)
 obtain⟨v2,f2,e2,w2,g2,k2⟩:=zb8 (nB+t.qty)
 rw[e2]at hA2
 have hA3:=zeV W nS t.qty wnS (by unfold inW;omega)
 obtain⟨v3,f3,e3,w3,g3',k3⟩:=zb8 (nS - t.qty)
 rw[e3]at hA3
 have hA4:=zeV W cB v1 wcB w1
 obtain⟨v4,f4,e4,w4,g4',k4⟩:=zb8 (cB - v1)
 rw[e4]at hA4
 have hA5:=zeU W cS v1 wcS w1
 obtain⟨v5,f5,e5,w5,g5',k5⟩:=zb8 (cS+v1)
 rw[e5]at hA5
 have hE:putE (psOf cash rs) t=if f1&&f2&&f3&&f4&&f5 then 0 else 15:=by
  unfold putE
  rw[if_neg hbad,zbm x1 ha.at_ x3 hnB,zbm y1 hb.at_ x3 hnS,zbk x1 hcB,zbk y1 hcS,hcost,g1,g2,g3']
  cases f1
  ·simp
  ·rw[←k1 rfl,g4',g5']
 have hEok:(f1&&f2&&f3&&f4&&f5)=true→(putP (psOf cash rs) t)=⟨(cash.set t.buyer.toNat v4).set t.seller.toNat v5,setRow (setRow (rs.map PRow.l) t.buyer t.bond v2) t.seller t.bond v3⟩:=fun hf=>by
  rw[hf,if_pos rfl]at hE
  simp only[Bool.and_eq_true]at hf
  obtain⟨⟨⟨⟨z1,z2⟩,z3⟩,z4⟩,z5⟩:=hf
  unfold putP
  rw[if_pos hE,zbm x1 ha.at_ x3 hnB,zbm y1 hb.at_ x3 hnS,zbk x1 hcB,zbk y1 hcS,hcost,k2 z2,k3 z3,k4 z4,k5 z5,k1 z1]
  rfl
 rw[hE]
 obtain⟨R,hR⟩:=zcU (l:=rs) (i:=t.buyer.toNat) (j:=t.seller.toNat) (by omega) (by omega) (by omega)
 have hR0:=hR a b
 rw[zbx ha.at_,zbx hb.at_]at hR0
 have hpull:(zaM p AC cC AR cR cash rs F).Perm (.blk p 69 [.slice AR rs.length cR,.slice AC cash.length cC]::.own AC cash.length cC 2 1 (cash.map (Value.int .i64))::.own AR rs.length cR 66 1 (rs.map PRow.hd)
  ::.own a.A a.l.length a.c 2 1 (a.l.map (Value.int .i64))::.own b.A b.l.length b.c 2 1 (b.l.map (Value.int .i64))::(R.map PRow.ck++F)):=by
  unfold zaM
  refine((List.Perm.append_right F (hR0.map PRow.ck)).cons _ |>.cons _ |>.cons _)
 have hixa:=zbJ ha.at_
 have hixb:=zbJ hb.at_
 have hiB:=zcW (kd:=.i64) hnB
 have hiS:=zcW (kd:=.i64) hnS
 have hjB:=zcW (kd:=.i64) hcB
 have hjS:=zcW (kd:=.i64) hcS
 generalize hG:R.map PRow.ck++F=G at hpull
 have hEno:(f1&&f2&&f3&&f4&&f5)=false→putP (psOf cash rs) t=psOf cash rs:=fun hf=>by
  rw[hf]at hE
  unfold putP
  rw[if_neg (by rw[hE];decide)]
 have hdrop:∀k,zaL k (.blk p 69 [.slice AR rs.length cR,.slice AC cash.length cC]::.own AC cash.length cC 2 1 (cash.map (Value.int .i64))::.own AR rs.length cR 66 1 (rs.map PRow.hd)
  ::.own a.A a.l.length a.c 2 1 (a.l.map (Value.int .i64))::.own b.A b.l.length b.c 2 1 (b.l.map (Value.int .i64))::G)→zaL k (zaM p AC cC AR cR cash rs F):=fun k hk=>zbb hk (zdE hpull.symm)
 have hfin:∀k,zaL k (.blk p 69 [.slice AR rs.length cR,.slice AC cash.length cC]::.own AC cash.length cC 2 1 (lay (lay (cash.map (Value.int .i64)) (t.buyer.toNat*1) (Value.cells (.int .i64 v4)).toList) (t.seller.toNat*1) (Value.cells (.int .i64 v5)).toList)::.own AR rs.length cR 66 1 (rs.map PRow.hd)
  ::.own a.A a.l.length a.c 2 1 (lay (a.l.map (Value.int .i64)) (t.bond.toNat*1) (Value.cells (.int .i64 v2)).toList)::.own b.A b.l.length b.c 2 1 (lay (b.l.map (Value.int .i64)) (t.bond.toNat*1) (Value.cells (.int .i64 v3)).toList)::G)
  →zaL k (zaM p AC cC AR cR ((cash.set t.buyer.toNat v4).set t.seller.toNat v5) ((rs.set t.buyer.toNat ⟨a.A,a.c,a.l.set t.bond.toNat v2⟩).set t.seller.toNat ⟨b.A,b.c,b.l.set t.bond.toNat v3⟩) F):=fun k hk=>by
  refine zbb hk (zdE ?_)
  rw[zbT (by omega),zbT (by simp only[List.length_set];omega),zbT (by omega),zbT (by omega)]
  unfold zaM
  have e4:((rs.set t.buyer.toNat ⟨a.A,a.c,a.l.set t.bond.toNat v2⟩).set t.seller.toNat ⟨b.A,b.c,b.l.set t.bond.toNat v3⟩).map PRow.hd=rs.map PRow.hd:=by
   rw[List.map_set,List.map_set]
   have f1:PRow.hd ⟨a.A,a.c,a.l.set t.bond.toNat v2⟩=PRow.hd a:=by unfold PRow.hd;simp only[List.length_set]
   have f2:PRow.hd ⟨b.A,b.c,b.l.set t.bond.toNat v3⟩=PRow.hd b:=by unfold PRow.hd;simp only[List.length_set]
   rw[f1,f2,zbx (l:=rs.map PRow.hd) (i:=t.buyer.toNat) (a:=PRow.hd a) (by rw[List.getElem?_map,ha.at_];rfl),zbx (l:=rs.map PRow.hd) (i:=t.seller.toNat) (a:=PRow.hd b) (by rw[List.getElem?_map,hb.at_];rfl)]
  rw[e4]
  simp only[List.length_set]
  refine List.Perm.cons _ (List.Perm.cons _ (List.Perm.cons _ ?_))
  have e5:=((hR ⟨a.A,a.c,a.l.set t.bond.toNat v2⟩ ⟨b.A,b.c,b.l.set t.bond.toNat v3⟩).map PRow.ck).append_right F
  have f3:PRow.ck ⟨a.A,a.c,a.l.set t.bond.toNat v2⟩=.own a.A a.l.length a.c 2 1 ((a.l.set t.bond.toNat v2).map (Value.int .i64)):=by unfold PRow.ck;simp only[List.length_set]
  have f4:PRow.ck ⟨b.A,b.c,b.l.set t.bond.toNat v3⟩=.own b.A b.l.length b.c 2 1 ((b.l.set t.bond.toNat v3).map (Value.int .i64)):=by unfold PRow.ck;simp only[List.length_set]
  rw[List.map_cons,List.map_cons,f3,f4]at e5
  rw[←hG]
  exact e5.symm
 have hpsok:(f1&&f2&&f3&&f4&&f5)=true→psOf ((cash.set t.buyer.toNat v4).set t.seller.toNat v5) ((rs.set t.buyer.toNat ⟨a.A,a.c,a.l.set t.bond.toNat v2⟩).set t.seller.toNat ⟨b.A,b.c,b.l.set t.bond.toNat v3⟩)=putP (psOf cash rs) t:=fun hf=>by
  rw[hEok hf]
  unfold psOf
  congr 1
  rw[List.map_set,List.map_set]
  have q1:at0 (rs.map PRow.l) t.buyer=some a.l:=by unfold at0;rw[if_neg (by omega),List.getElem?_map,ha.at_];rfl
  rw[zcl q1]
  have q2:at0 ((rs.map PRow.l).set t.buyer.toNat (a.l.set t.bond.toNat v2)) t.seller=some b.l:=by
   unfold at0
   rw[if_neg (by omega),List.getElem?_set_ne (by omega),List.getElem?_map,hb.at_];rfl
  rw[zcl q2]
 generalize putP (psOf cash rs) t=PP at*
 refine zau Tryz.func8 rfl rfl Tryz.results8 Tryz.ntmps8 rfl rfl ?_
 refine zfr hpull ?_
 refine zaK (zaT (W:=W) mem2) rfl (fun hAR=> ?_)
 have hAR':=hAR (by omega)
 refine zaK (zaE.ints (W:=W) mem1 rfl) rfl (fun hAC=> ?_)
 have hAC':=hAC (by omega)
 refine zaK (zaE.ints (W:=W) mem3 rfl) rfl (fun hAa=> ?_)
 have hAa':=hAa (by omega)
 refine zaK (zaE.ints (W:=W) mem4 rfl) rfl (fun hAb=> ?_)
 have hAb':=hAb (by omega)
 repeat' (first
  |apply zaA|apply zaa|apply zaz|apply zam|apply zan|apply zae|apply zay
  |(apply zaj hT;(iterate 4 exact rfl))|(apply zak;(iterate 3 exact rfl))|(apply zad;(iterate 2 exact rfl))
  |(apply zax hT;(iterate 4 exact rfl);(iterate 2 (first|omega|(dsimp only;omega))))
  |(apply zas [27,28] [] hmix;decide+kernel)
  |(apply zbr [] [] (.step 0 <| .step 1 <| .step 2 <| .step 3 <| .step 4 <| .step 5 <| .step 6 <| .step 7 <| .step 8 <| .step 9 <| .step 10 <| .step 11 <| .step 12 <| .step 13 <| .step 14 <| .step 15 <| .step 16 <| .step 17 <| .step 18 <| .step 20 <| .step 21 <| .step 22 <| .alt (.step 19 <| .step 23 <| .step 24 <| .step 25 <| .nil) ((.step 23 <| .step 19 <| .step 24 <| .step 25 <| .nil))) hmix;decide+kernel)|apply zb5|apply zb6|(apply zbA;exact rfl)
  |(apply zbr [] [] (.step 0 <| .step 1 <| .step 2 <| .step 3 <| .step 4 <| .step 5 <| .step 6 <| .step 7 <| .step 8 <| .step 9 <| .step 10 <| .step 12 <| .step 13 <| .step 14 <| .alt (.step 11 <| .step 15 <| .step 16 <| .step 17 <| .nil) ((.step 15 <| .step 11 <| .step 16 <| .step 17 <| .nil))) hmix;decide+kernel)|apply zb5|apply zb6|(apply zbA;exact rfl)
  |(apply zav;(iterate 5 exact rfl);intro g3)
  |(apply zaw (hs:=(h1 _ (by(repeat(first|exact List.mem_cons_self|apply List.mem_cons_of_mem|apply List.mem_append_right))) (by(repeat(first|exact List.mem_cons_self|apply List.mem_cons_of_mem|apply List.mem_append_right)))));(iterate 7 exact rfl))
  |(apply zaw (hs:=(h2 _ (by(repeat(first|exact List.mem_cons_self|apply List.mem_cons_of_mem|apply List.mem_append_right))) (by(repeat(first|exact List.mem_cons_self|apply List.mem_cons_of_mem|apply List.mem_append_right)))));(iterate 7 exact rfl))
  |(apply zaw (hs:=(hTm.mono (by simp)));(iterate 7 exact rfl))
  |(apply zaw (hs:=(hNr.mono (by simp)));(iterate 7 exact rfl))
  |(apply zaw (hs:=(hA2.mono (by simp)));(iterate 7 exact rfl))
  |(apply zaw (hs:=(hA3.mono (by simp)));(iterate 7 exact rfl))
  |(apply zaw (hs:=(hA4.mono (by simp)));(iterate 7 exact rfl))
  |(apply zaw (hs:=(hA5.mono (by simp)));(iterate 7 exact rfl))
  |(apply zaQ hT;(iterate 6 exact rfl);exact sX;(iterate 3 exact rfl);exact Nat.le_of_ble_eq_true rfl)
  |(apply za4 hT;(iterate 8 exact rfl);(iterate 2 omega);first|exact hAR'|exact hAC'|exact hAa'|exact hAb')
  |(apply zab;(iterate 5 exact rfl);first|exact zaY hT rfl rfl (zaT (by(repeat(first|exact List.mem_cons_self|apply List.mem_cons_of_mem|apply List.mem_append_right)))) rfl hixa|exact zaY hT rfl rfl (zaT (by(repeat(first|exact List.mem_cons_self|apply List.mem_cons_of_mem|apply List.mem_append_right)))) rfl hixb|exact zaY hT rfl rfl (zaE.ints (by(repeat(first|exact List.mem_cons_self|apply List.mem_cons_of_mem|apply List.mem_append_right))) rfl) rfl hiB|exact zaY hT rfl rfl (zaE.ints (by(repeat(first|exact List.mem_cons_self|apply List.mem_cons_of_mem|apply List.mem_append_right))) rfl) rfl hiS|exact zaY hT rfl rfl (zaE.ints (by(repeat(first|exact List.mem_cons_self|apply List.mem_cons_of_mem|apply List.mem_append_right))) rfl) rfl hjB|exact zaY hT rfl rfl (zaE.ints (by(repeat(first|exact List.mem_cons_self|apply List.mem_cons_of_mem|apply List.mem_append_right))) rfl) rfl hjS)
  |(apply zbs (A:=a.A) hT;(iterate 6 exact rfl);exact sX;exact rfl;exact rfl;exact rfl;(show t.bond.toNat*1+1≤a.l.length*1;omega);omega)
  |(apply zbs (A:=b.A) hT;(iterate 6 exact rfl);exact sX;exact rfl;exact rfl;exact rfl;(show t.bond.toNat*1+1≤b.l.length*1;omega);omega)
  |(apply zbs (A:=AC) hT;(iterate 6 exact rfl);exact sX;exact rfl;exact rfl;exact rfl;(show t.buyer.toNat*1+1≤cash.length*1;omega);omega)
  |(apply zbs (A:=AC) hT;(iterate 6 exact rfl);exact sX;exact rfl;exact rfl;exact rfl;(show t.seller.toNat*1+1≤cash.length*1;omega);omega)
  |(apply zab;(iterate 5 exact rfl);first|(apply zat hT;exact rfl;exact rfl;(repeat(first|exact List.mem_cons_self|apply List.mem_cons_of_mem|apply List.mem_append_right));exact rfl;exact rfl)|(apply zar hT;exact rfl;exact rfl;(repeat(first|exact List.mem_cons_self|apply List.mem_cons_of_mem|apply List.mem_append_right));exact rfl))
  |(apply zav;(iterate 5 exact rfl);intro _)|(apply zac hT;(iterate 5 exact rfl);intro _)
  |(apply zaf;(iterate 2 exact rfl))|(apply zag;(iterate 2 exact rfl))
  |(apply zal;exact rfl;all_goals intro hb;all_goals(fail_if_success (change true=true at hb));all_goals(fail_if_success (change false=false at hb));all_goals(try dsimp only at hb);all_goals(try simp only[hb]);all_goals(first|replace hb:=of_decide_eq_true hb|replace hb:=of_decide_eq_false hb|replace hb:=zap hb|replace hb:=zaq hb|replace hb:=eq_of_beq hb|replace hb:=ne_of_beq_false hb|skip);all_goals(try(exfalso;omega)))
  |(apply zao;exact rfl;all_goals intro hb;all_goals(try dsimp only at hb);all_goals(try simp only[hb]);all_goals(first|replace hb:=of_decide_eq_true hb|replace hb:=of_decide_eq_false hb|replace hb:=zap hb|replace hb:=zaq hb|replace hb:=eq_of_beq hb|replace hb:=ne_of_beq_false hb|skip);all_goals(try(exfalso;omega))))
 all_goals first
  |(exfalso;omega)
  |((have flag0:(f1&&f2&&f3&&f4&&f5)=false:=by(clear hdrop hfin hpsok hEok hEno hE hI h1 h2 hpull;simp only[Bool.not_eq_true',Bool.not_eq_false']at *;simp[*]));apply ret1;exact rfl;exact⟨_,hdrop _ dX,by rw[flag0];rfl,cash,rs,(hEno flag0).symm,rfl⟩)
  |((have flag1:(f1&&f2&&f3&&f4&&f5)=true:=by(clear hdrop hfin hpsok hEok hEno hE hI h1 h2 hpull;simp only[Bool.not_eq_true',Bool.not_eq_false']at *;simp[*]));apply ret1;exact rfl;exact⟨_,hfin _ dX,by rw[flag1];rfl,_,_,hpsok flag1,rfl⟩)
  |skip
end Go.Proofs.YteocfhdocpeokaaGreat
set_option linter.unusedSimpArgs false
set_option linter.unusedVariables false
namespace Go.Sl
open Go Go.RowKit
variable {P : Program} {W : World} {T : Tab} {N : Nat} {env : Env} {h h' : List zah} {kf : KF} {ops : Array Oper} {K : Env → List zah → Prop} {o : Oper} {rest : List Oper}
theorem zha {L R:List zah}:(L++R).Perm (L++R):=plr _
theorem zhb {x:zah}{F L G:List zah}(hp:F.Perm (L++G)):(x::F).Perm (L++x::G):=(hp.cons x).trans List.perm_middle.symm
theorem zhc {X F L G:List zah}(hp:F.Perm (L++G)):(X++F).Perm (L++(X++G)):=(hp.append_left X).trans (by
 rw[←List.append_assoc,←List.append_assoc]
 exact(List.perm_append_comm).append_right G)
theorem zhd {h L G F:List zah}(h1:h.Perm (L++G))(h2:G.Perm F):h.Perm (L++F):=h1.trans (h2.append_left L)
end Go.Sl
set_option linter.unusedSimpArgs false
set_option linter.unusedVariables false
namespace Go.Proofs.YteocfhdocpeokaaGreat
open Go Go.Sl
attribute [local irreducible] AW ES EP Ld RetQ
set_option maxRecDepth 100000
theorem zfy (W:World)(F:List zah)(p:Nat)(AC:Option Addr)(cC:Nat)(AR:Option Addr)(cR:Nat)(cash:List Int)(rs:List PRow)(np nb:Nat)(hP:PsOK np nb (psOf cash rs))(t:zaG)(hpr:inW t.price)(hqt:inW t.qty):
 zaI Tryz.prog W 8 [.pointer (some ⟨p,0,none⟩),.agg t.enc.toArray] (zaM p AC cC AR cR cash rs F) (fun v h'=>v=.int .i64 (putE (psOf cash rs) t)∧∃cash' rs',psOf cash' rs'=putP (psOf cash rs) t∧h'=zaM p AC cC AR cR cash' rs' F):=by
 by_cases hbad:zbh (psOf cash rs) t.buyer t.bond=false∨zbh (psOf cash rs) t.seller t.bond=false∨t.buyer=t.seller∨t.price<1∨t.qty<1
 ·have hE:putE (psOf cash rs) t=1:=by unfold putE;rw[if_pos hbad]
  refine(zfa W F p AC cC AR cR cash rs np nb hP t hbad).mono (fun v h' hh=> ?_)
  obtain⟨rfl,rfl⟩:=hh
  exact⟨by rw[hE],cash,rs,by unfold putP;rw[if_neg (by rw[hE];omega)],rfl⟩
 ·exact zfx W F p AC cC AR cR cash rs np nb hP t hpr hqt hbad
theorem zd1 {np nb:Nat}(h:(1≤np∧np≤8)∧1≤nb∧nb≤4):zbv np nb=true:=by
 unfold zbv;simp;omega
theorem zeW (W:World)(h:List zah)(np nb:Nat)(hn:(1≤np∧np≤8)∧1≤nb∧nb≤4):zaI Tryz.prog W 6 [.int .i64 np,.int .i64 nb] h
 (fun v h'=>∃p AC cC AR cR cash rs,v=.pointer (some ⟨p,0,none⟩)∧psOf cash rs=zbo np nb∧h'=zaM p AC cC AR cR cash rs h):=by
 refine(zeo W h np nb).mono (fun v h' hh=> ?_)
 rcases hh with ⟨h1,_⟩|⟨_,p,AC,cC,AR,cR,rs,rfl,rfl,hrs⟩
 ·rw[zd1 hn]at h1;cases h1
 ·exact⟨p,AC,cC,AR,cR,_,rs,rfl,by unfold psOf zbo;rw[hrs];rfl,rfl⟩
theorem zd2 {np nb:Nat}{w p:Ps}{k:Nat}(h:∀j,j<k→zbS nb w p j=true)(hk:zbS nb w p k=true):∀j,j<k+1→zbS nb w p j=true:=fun j hj=>by
 by_cases e:j=k
 ·rw[e];exact hk
 ·exact h j (by omega)
theorem zeX {np nb:Nat}{w p:Ps}(h:∀j,j<np→zbS nb w p j=true):eqPs np nb w p=true:=by
 unfold eqPs
 rw[List.all_eq_true]
 exact fun j hj=>h j (List.mem_range.1 hj)
theorem zdI {np nb:Nat}{w p:Ps}{k:Nat}(hk:k<np)(h:zbS nb w p k=false):eqPs np nb w p=false:=by
 unfold eqPs
 rw[List.all_eq_false]
 exact⟨k,List.mem_range.2 hk,by rw[h];decide⟩
theorem zd3 {nb:Nat}{w p:Ps}{k:Nat}(hc:za0 w k=za0 p k)(h:∀i:Nat,i<nb→za8 w k i=za8 p k i):zbS nb w p k=true:=by
 unfold zbS
 simp only[Bool.and_eq_true,beq_iff_eq,List.all_eq_true]
 exact⟨hc,fun i hi=>h i (List.mem_range.1 hi)⟩
theorem zdm {nb:Nat}{w p:Ps}{k:Nat}(hc:¬za0 w k=za0 p k):zbS nb w p k=false:=by
 unfold zbS
 rw[Bool.and_eq_false_iff]
 exact .inl (by simpa using hc)
theorem zd4 {nb:Nat}{w p:Ps}{k i:Nat}(hi:i<nb)(hc:¬za8 w k i=za8 p k i):zbS nb w p k=false:=by
 unfold zbS
 rw[Bool.and_eq_false_iff]
 refine .inr ?_
 rw[List.all_eq_false]
 exact⟨i,List.mem_range.2 hi,by simpa using hc⟩
theorem zdn {p:Nat}{AC:Option Addr}{cC:Nat}{AR:Option Addr}{cR:Nat}{cash:List Int}{rs:List PRow}{F:List zah}:∀c∈zaM p AC cC AR cR cash rs [],c∈zaM p AC cC AR cR cash rs F:=fun c hc=>by
 unfold zaM at*
 rw[List.append_nil]at hc
 rcases List.mem_cons.1 hc with rfl|hc
 ·exact mem0
 rcases List.mem_cons.1 hc with rfl|hc
 ·exact mem1
 rcases List.mem_cons.1 hc with rfl|hc
 ·exact mem2
 exact List.mem_cons_of_mem _ (List.mem_cons_of_mem _ (List.mem_cons_of_mem _ (List.mem_append_left _ hc)))
theorem zbK {p:Nat}{AC:Option Addr}{cC:Nat}{AR:Option Addr}{cR:Nat}{cash:List Int}{rs:List PRow}{F:List zah}:∀c∈F,c∈zaM p AC cC AR cR cash rs F:=fun c hc=>by
 unfold zaM
 exact List.mem_cons_of_mem _ (List.mem_cons_of_mem _ (List.mem_cons_of_mem _ (List.mem_append_right _ hc)))
theorem zcY {p:Nat}{AC:Option Addr}{cC:Nat}{AR:Option Addr}{cR:Nat}{cash:List Int}{rs:List PRow}{F:List zah}:zaL (zaM p AC cC AR cR cash rs F) F:=zbt (zbt (zbt (zeM zbi)))
theorem zd5 (W:World)(p:Nat)(AC:Option Addr)(cC:Nat)(AR:Option Addr)(cR:Nat)(cash:List Int)(rs:List PRow)(np nb:Nat)(h1:1≤nb)(hP:PsOK np nb (psOf cash rs))(who:Int):
 zaC Tryz.prog W 34 [.pointer (some ⟨p,0,none⟩),.int .i64 who] (zaM p AC cC AR cR cash rs []) (.int .i64 (za0 (psOf cash rs) who)):=by
 have hnc:=hP.nc
 have hnp:=hP.np
 simp only[psOf,llm]at hnc hnp
 rw[←zgd]
 refine(zgb W p AC cC AR cR cash rs (by omega) (fun r hr=> ?_) who).mono (ze9 mem0 mem2 mem1)
 have:=hP.row r.l (lmm.2 ⟨r,hr,rfl⟩)
 omega
theorem zdo (W:World)(h:List zah)(np nb:Nat)(hn:(1≤np∧np≤8)∧1≤nb∧nb≤4)(A:Option Addr)(c:Nat)(l:List zaG)(hr:zaE W h A l.length 8 (l.flatMap zaG.enc))(hb:l.length≤1000000)(hok:∀t∈l,inW t.price∧inW t.qty)
 (q:Nat)(AC:Option Addr)(cC:Nat)(AR:Option Addr)(cR:Nat)(cash:List Int)(rs:List PRow)(hP:PsOK np nb (psOf cash rs))(hq:∀c∈zaM q AC cC AR cR cash rs [],c∈h):
 zaC Tryz.prog W 10 [.int .i64 np,.int .i64 nb,.slice A l.length c,.pointer (some ⟨q,0,none⟩)] h (.bool (zdY np nb l (psOf cash rs))):=by
 refine zaC.ofD (fun h' hs=> ?_)
 have hrd:=hr.mono hs
 have hq':∀c∈zaM q AC cC AR cR cash rs [],c∈h':=fun c hc=>hs c (hq c hc)
 have hBo:=fun who bond k (hk:∀c∈h',c∈k)=>(zd0 W q AC cC AR cR cash rs np nb hP who bond).mono (h':=k) (fun c hc=>hk c (hq' c hc))
 have hCa:=fun who k (hk:∀c∈h',c∈k)=>(zd5 W q AC cC AR cR cash rs np nb (by omega) hP who).mono (h':=k) (fun c hc=>hk c (hq' c hc))
 have hNw:=fun k=>zeW W k np nb hn
 unfold zdY
 refine zau Tryz.func10 rfl rfl Tryz.results10 Tryz.ntmps10 rfl rfl ?_
 refine zaK hrd rfl (fun hA=> ?_)
 repeat' (first
  |apply zaA|apply zaa|apply zaz|apply zam|apply zan|apply zae|apply zay
  |(apply zaj hT;(iterate 4 exact rfl))|(apply zak;(iterate 3 exact rfl))|(apply zad;(iterate 2 exact rfl))
  |(apply zax hT;(iterate 4 exact rfl);(iterate 2 (first|omega|(dsimp only;omega))))
  |(apply zas [] [] hmix;decide+kernel)
  |(apply zaN (hs:=(hNw _));(iterate 7 exact rfl);rintro _ _ ⟨p,AC2,cC2,AR2,cR2,cash0,rs0,rfl,hz,rfl⟩)
  |(apply zab;(iterate 5 exact rfl);first|(apply zat hT;exact rfl;exact rfl;(repeat(first|exact List.mem_cons_self|apply List.mem_cons_of_mem|apply List.mem_append_right));exact rfl;exact rfl)|(apply zar hT;exact rfl;exact rfl;(repeat(first|exact List.mem_cons_self|apply List.mem_cons_of_mem|apply List.mem_append_right));exact rfl))
  |(apply zav;(iterate 5 exact rfl);intro _)|(apply zac hT;(iterate 5 exact rfl);intro _)
  |(apply zaf;(iterate 2 exact rfl))|(apply zag;(iterate 2 exact rfl))
  |(apply zal;exact rfl;all_goals intro hb;all_goals(fail_if_success (change true=true at hb));all_goals(fail_if_success (change false=false at hb));all_goals(try dsimp only at hb);all_goals(try simp only[hb]);all_goals(first|replace hb:=of_decide_eq_true hb|replace hb:=of_decide_eq_false hb|replace hb:=zap hb|replace hb:=zaq hb|replace hb:=eq_of_beq hb|replace hb:=ne_of_beq_false hb|skip);all_goals(try(exfalso;omega)))
  |(apply zao;exact rfl;all_goals intro hb;all_goals(try dsimp only at hb);all_goals(try simp only[hb]);all_goals(first|replace hb:=of_decide_eq_true hb|replace hb:=of_decide_eq_false hb|replace hb:=zap hb|replace hb:=zaq hb|replace hb:=eq_of_beq hb|replace hb:=ne_of_beq_false hb|skip);all_goals(try(exfalso;omega))))
 all_goals try(exfalso;omega)
 refine za2 (α:=Nat×List Int×List PRow) (E:=fun x=>[(0,.int .i64 np),(1,.int .i64 nb),(3,.pointer (some ⟨q,0,none⟩)),(9,.pointer (some ⟨p,0,none⟩)),(19,.slice A l.length c),(20,.int .i64 l.length),(21,.int .i64 x.1)]) (H:=fun x=>zaM p AC2 cC2 AR2 cR2 x.2.1 x.2.2 h') (μ:=fun x=>l.length - x.1)
  (S:=fun x=>x.1≤l.length∧PsOK np nb (psOf x.2.1 x.2.2)∧zbR l (zbo np nb)=zbR (l.drop x.1) (psOf x.2.1 x.2.2)) (0,cash0,rs0) ⟨Nat.zero_le _,by rw[hz];exact zcj np nb,by rw[hz];rfl⟩ ⟨rfl,rfl,rfl,rfl,rfl,rfl,rfl,trivial⟩ dX ?_
 rintro⟨k,cash1,rs1⟩ ⟨hk,hok1,hall⟩
 dsimp only at hk hok1 hall ⊢
 by_cases hlt:k<l.length
 ·obtain⟨t,ht⟩:∃t,l[k]? =some t:=⟨l[k]'(by omega),gge (by omega)⟩
  have ht2:l[(k:Int).toNat]? =some t:=by simpa using ht
  have hA':=hA (by omega)
  have hd1:decide ((k:Int)<(l.length:Int))=true:=by simp;omega
  obtain⟨w1,w2⟩:=hok t (mog ht)
  have hPut:=fun G=>zfy W G p AC2 cC2 AR2 cR2 cash1 rs1 np nb hok1 t w1 w2
  rw[zcV ht]at hall
  by_cases hE:putE (psOf cash1 rs1) t=0
  ·rw[hE]at hPut
   rw[if_pos hE]at hall
   repeat' (first
    |apply zaA|apply zaa|apply zaz|apply zam|apply zan|apply zae|apply zay
    |(apply zaj hT;(iterate 4 exact rfl))|(apply zak;(iterate 3 exact rfl))|(apply zad;(iterate 2 exact rfl))
    |(apply zax hT;(iterate 4 exact rfl);(iterate 2 (first|omega|(dsimp only;omega))))
    |(apply zas [] [] hmix;decide+kernel)
    |(apply za4 hT;(iterate 8 exact rfl);(iterate 2 omega);exact hA')
    |(apply zab;(iterate 5 exact rfl);first|exact zbd hT rfl rfl (hrd.mono zbK) zaG.enc_len rfl ht2 rfl|(apply zar hT;exact rfl;exact rfl;(repeat(first|exact List.mem_cons_self|apply List.mem_cons_of_mem|apply List.mem_append_right));exact rfl))
    |(apply zac hT;(iterate 5 exact rfl);first|((fail_if_success (have q:=g11));intro g11)|intro _)
    |(apply zaQ hT;(iterate 6 exact rfl);exact sX;(iterate 3 exact rfl);exact Nat.le_of_ble_eq_true rfl)
    |(apply zaN (hs:=(zaI.perm (hPut _) pX));(iterate 7 exact rfl);rintro _ _ ⟨rfl,cash2,rs2,hps,rfl⟩)
    |(apply zab;(iterate 5 exact rfl);first|(apply zat hT;exact rfl;exact rfl;(repeat(first|exact List.mem_cons_self|apply List.mem_cons_of_mem|apply List.mem_append_right));exact rfl;exact rfl)|(apply zar hT;exact rfl;exact rfl;(repeat(first|exact List.mem_cons_self|apply List.mem_cons_of_mem|apply List.mem_append_right));exact rfl))
    |(apply zav;(iterate 5 exact rfl);intro _)|(apply zac hT;(iterate 5 exact rfl);intro _)
    |(apply zaf;(iterate 2 exact rfl))|(apply zag;(iterate 2 exact rfl))
    |(apply zal;exact rfl;all_goals intro hb;all_goals(fail_if_success (change true=true at hb));all_goals(fail_if_success (change false=false at hb));all_goals(try dsimp only at hb);all_goals(try simp only[hb]);all_goals(first|replace hb:=of_decide_eq_true hb|replace hb:=of_decide_eq_false hb|replace hb:=zap hb|replace hb:=zaq hb|replace hb:=eq_of_beq hb|replace hb:=ne_of_beq_false hb|skip);all_goals(try(exfalso;omega)))
    |(apply zao;exact rfl;all_goals intro hb;all_goals(try dsimp only at hb);all_goals(try simp only[hb]);all_goals(first|replace hb:=of_decide_eq_true hb|replace hb:=of_decide_eq_false hb|replace hb:=zap hb|replace hb:=zaq hb|replace hb:=eq_of_beq hb|replace hb:=ne_of_beq_false hb|skip);all_goals(try(exfalso;omega))))
   all_goals first
    |(exfalso;omega)
    |exact zaO (k+1,cash2,rs2) (by dsimp only;omega) ⟨by dsimp only;omega,by dsimp only;rw[hps];exact zdH hok1 t,by dsimp only;rw[hps];exact hall⟩ ⟨rfl,rfl,rfl,rfl,rfl,rfl,rfl,trivial⟩ dX
    |skip
  ·rw[if_neg hE]at hall
   generalize putE (psOf cash1 rs1) t=e at hPut hE
   repeat' (first
    |apply zaA|apply zaa|apply zaz|apply zam|apply zan|apply zae|apply zay
    |(apply zaj hT;(iterate 4 exact rfl))|(apply zak;(iterate 3 exact rfl))|(apply zad;(iterate 2 exact rfl))
    |(apply zax hT;(iterate 4 exact rfl);(iterate 2 (first|omega|(dsimp only;omega))))
    |(apply zas [] [] hmix;decide+kernel)
    |(apply za4 hT;(iterate 8 exact rfl);(iterate 2 omega);exact hA')
    |(apply zab;(iterate 5 exact rfl);first|exact zbd hT rfl rfl (hrd.mono zbK) zaG.enc_len rfl ht2 rfl|(apply zar hT;exact rfl;exact rfl;(repeat(first|exact List.mem_cons_self|apply List.mem_cons_of_mem|apply List.mem_append_right));exact rfl))
    |(apply zac hT;(iterate 5 exact rfl);first|((fail_if_success (have q:=g11));intro g11)|intro _)
    |(apply zaQ hT;(iterate 6 exact rfl);exact sX;(iterate 3 exact rfl);exact Nat.le_of_ble_eq_true rfl)
    |(apply zaN (hs:=(zaI.perm (hPut _) pX));(iterate 7 exact rfl);rintro _ _ ⟨rfl,cash2,rs2,hps,rfl⟩)
    |(apply zab;(iterate 5 exact rfl);first|(apply zat hT;exact rfl;exact rfl;(repeat(first|exact List.mem_cons_self|apply List.mem_cons_of_mem|apply List.mem_append_right));exact rfl;exact rfl)|(apply zar hT;exact rfl;exact rfl;(repeat(first|exact List.mem_cons_self|apply List.mem_cons_of_mem|apply List.mem_append_right));exact rfl))
    |(apply zav;(iterate 5 exact rfl);intro _)|(apply zac hT;(iterate 5 exact rfl);intro _)
    |(apply zaf;(iterate 2 exact rfl))|(apply zag;(iterate 2 exact rfl))
    |(apply zal;exact rfl;all_goals intro hb;all_goals(fail_if_success (change true=true at hb));all_goals(fail_if_success (change false=false at hb));all_goals(try dsimp only at hb);all_goals(try simp only[hb]);all_goals(first|replace hb:=of_decide_eq_true hb|replace hb:=of_decide_eq_false hb|replace hb:=zap hb|replace hb:=zaq hb|replace hb:=eq_of_beq hb|replace hb:=ne_of_beq_false hb|skip);all_goals(try(exfalso;omega)))
    |(apply zao;exact rfl;all_goals intro hb;all_goals(try dsimp only at hb);all_goals(try simp only[hb]);all_goals(first|replace hb:=of_decide_eq_true hb|replace hb:=of_decide_eq_false hb|replace hb:=zap hb|replace hb:=zaq hb|replace hb:=eq_of_beq hb|replace hb:=ne_of_beq_false hb|skip);all_goals(try(exfalso;omega))))
   all_goals first
    |(exfalso;omega)
    |(apply ret1;exact rfl;exact⟨by rw[hall],zbb (show zaL _ (zaM p AC2 cC2 AR2 cR2 cash2 rs2 h')from dX) zcY⟩)
    |skip
 ·obtain rfl:k=l.length:=by omega
  have hd1:decide ((l.length:Int)<(l.length:Int))=false:=by simp
  rw[List.drop_length]at hall
  rw[hall]
  dsimp only[zbR]
  have hBo1:=fun who bond k (hk:∀c∈zaM p AC2 cC2 AR2 cR2 cash1 rs1 h',c∈k)=>(zd0 W p AC2 cC2 AR2 cR2 cash1 rs1 np nb hok1 who bond).mono (h':=k) (fun c hc=>hk c (zdn c hc))
  have hCa1:=fun who k (hk:∀c∈zaM p AC2 cC2 AR2 cR2 cash1 rs1 h',c∈k)=>(zd5 W p AC2 cC2 AR2 cR2 cash1 rs1 np nb (by omega) hok1 who).mono (h':=k) (fun c hc=>hk c (zdn c hc))
  have hBo2:=fun who bond=>hBo who bond (zaM p AC2 cC2 AR2 cR2 cash1 rs1 h') zbK
  have hCa2:=fun who=>hCa who (zaM p AC2 cC2 AR2 cR2 cash1 rs1 h') zbK
  have hdr:zaL (zaM p AC2 cC2 AR2 cR2 cash1 rs1 h') h':=zcY
  generalize zaM p AC2 cC2 AR2 cR2 cash1 rs1 h'=H1 at*
  generalize psOf cash1 rs1=w at*
  generalize psOf cash rs=v at*
  repeat' (first
   |apply zaA|apply zaa|apply zaz|apply zam|apply zan|apply zae|apply zay
   |(apply zaj hT;(iterate 4 exact rfl))|(apply zak;(iterate 3 exact rfl))|(apply zad;(iterate 2 exact rfl))
   |(apply zax hT;(iterate 4 exact rfl);(iterate 2 (first|omega|(dsimp only;omega))))
   |(apply zas [] [] hmix;decide+kernel)
   |(apply zab;(iterate 5 exact rfl);first|(apply zat hT;exact rfl;exact rfl;(repeat(first|exact List.mem_cons_self|apply List.mem_cons_of_mem|apply List.mem_append_right));exact rfl;exact rfl)|(apply zar hT;exact rfl;exact rfl;(repeat(first|exact List.mem_cons_self|apply List.mem_cons_of_mem|apply List.mem_append_right));exact rfl))
   |(apply zav;(iterate 5 exact rfl);intro _)|(apply zac hT;(iterate 5 exact rfl);intro _)
   |(apply zaf;(iterate 2 exact rfl))|(apply zag;(iterate 2 exact rfl))
   |(apply zal;exact rfl;all_goals intro hb;all_goals(fail_if_success (change true=true at hb));all_goals(fail_if_success (change false=false at hb));all_goals(try dsimp only at hb);all_goals(try simp only[hb]);all_goals(first|replace hb:=of_decide_eq_true hb|replace hb:=of_decide_eq_false hb|replace hb:=zap hb|replace hb:=zaq hb|replace hb:=eq_of_beq hb|replace hb:=ne_of_beq_false hb|skip);all_goals(try(exfalso;omega)))
   |(apply zao;exact rfl;all_goals intro hb;all_goals(try dsimp only at hb);all_goals(try simp only[hb]);all_goals(first|replace hb:=of_decide_eq_true hb|replace hb:=of_decide_eq_false hb|replace hb:=zap hb|replace hb:=zaq hb|replace hb:=eq_of_beq hb|replace hb:=ne_of_beq_false hb|skip);all_goals(try(exfalso;omega))))
  all_goals try(exfalso;omega)
  refine za2 (α:=Nat) (E:=fun x=>[(0,.int .i64 np),(1,.int .i64 nb),(3,.pointer (some ⟨q,0,none⟩)),(9,.pointer (some ⟨p,0,none⟩)),(30,.int .i64 np),(31,.int .i64 x)]) (H:=fun x=>H1) (μ:=fun x=>np - x)
   (S:=fun x=>x≤np∧∀j,j<x→zbS nb w v j=true) 0 ⟨Nat.zero_le _,fun j hj=>absurd hj (Nat.not_lt_zero _)⟩ ⟨rfl,rfl,rfl,rfl,rfl,rfl,trivial⟩ dX ?_
  rintro k ⟨hk,hgd⟩
  by_cases hlt:k<np
  ·have hd2:decide ((k:Int)<(np:Int))=true:=by simp;omega
   have c1:=hCa1 k
   have c2:=hCa2 k
   by_cases hc:za0 w k=za0 v k
   ·rw[hc]at c1
    generalize hcv:za0 v k=cv at c1 c2 hc
    repeat' (first
     |(apply zcE hT;(iterate 5 exact rfl))
     |apply zaA|apply zaa|apply zaz|apply zam|apply zan|apply zae|apply zay
     |(apply zaj hT;(iterate 4 exact rfl))|(apply zak;(iterate 3 exact rfl))|(apply zad;(iterate 2 exact rfl))
     |(apply zax hT;(iterate 4 exact rfl);(iterate 2 (first|omega|(dsimp only;omega))))
     |(apply zas [] [] hmix;decide+kernel)
     |(apply zaw (hs:=(c1 _ (by(intro c hc;(repeat(first|exact hc|apply List.mem_cons_of_mem|apply List.mem_append_right))))));(iterate 7 exact rfl))
     |(apply zaw (hs:=(c2.mono (by(intro c hc;(repeat(first|exact hc|apply List.mem_cons_of_mem|apply List.mem_append_right))))));(iterate 7 exact rfl))
     |(apply zab;(iterate 5 exact rfl);first|(apply zat hT;exact rfl;exact rfl;(repeat(first|exact List.mem_cons_self|apply List.mem_cons_of_mem|apply List.mem_append_right));exact rfl;exact rfl)|(apply zar hT;exact rfl;exact rfl;(repeat(first|exact List.mem_cons_self|apply List.mem_cons_of_mem|apply List.mem_append_right));exact rfl))
     |(apply zav;(iterate 5 exact rfl);intro _)|(apply zac hT;(iterate 5 exact rfl);intro _)
     |(apply zaf;(iterate 2 exact rfl))|(apply zag;(iterate 2 exact rfl))
     |(apply zal;exact rfl;all_goals intro hb;all_goals(fail_if_success (change true=true at hb));all_goals(fail_if_success (change false=false at hb));all_goals(try dsimp only at hb);all_goals(try simp only[hb]);all_goals(first|replace hb:=of_decide_eq_true hb|replace hb:=of_decide_eq_false hb|replace hb:=zap hb|replace hb:=zaq hb|replace hb:=eq_of_beq hb|replace hb:=ne_of_beq_false hb|skip);all_goals(try(exfalso;omega)))
     |(apply zao;exact rfl;all_goals intro hb;all_goals(try dsimp only at hb);all_goals(try simp only[hb]);all_goals(first|replace hb:=of_decide_eq_true hb|replace hb:=of_decide_eq_false hb|replace hb:=zap hb|replace hb:=zaq hb|replace hb:=eq_of_beq hb|replace hb:=ne_of_beq_false hb|skip);all_goals(try(exfalso;omega))))
    all_goals try(exfalso;omega)
    refine za2 (α:=Nat) (E:=fun x=>[(0,.int .i64 np),(1,.int .i64 nb),(3,.pointer (some ⟨q,0,none⟩)),(9,.pointer (some ⟨p,0,none⟩)),(12,.int .i64 k),(30,.int .i64 np),(31,.int .i64 k),(41,.int .i64 nb),(42,.int .i64 x)]) (H:=fun x=>H1) (μ:=fun x=>nb - x)
     (S:=fun x=>x≤nb∧∀i:Nat,i<x→za8 w k i=za8 v k i) 0 ⟨Nat.zero_le _,fun j hj=>absurd hj (Nat.not_lt_zero _)⟩ ⟨rfl,rfl,rfl,rfl,rfl,rfl,rfl,rfl,rfl,trivial⟩ dX ?_
    rintro m ⟨hm,hgm⟩
    by_cases hlm:m<nb
    ·have hd3:decide ((m:Int)<(nb:Int))=true:=by simp;omega
     have b1:=hBo1 k m
     have b2:=hBo2 k m
     by_cases hbq:za8 w k m=za8 v k m
     ·rw[hbq]at b1
      generalize hbv:za8 v k m=bv at b1 b2 hbq
      repeat' (first
       |(apply zcE hT;(iterate 5 exact rfl))
       |apply zaA|apply zaa|apply zaz|apply zam|apply zan|apply zae|apply zay
       |(apply zaj hT;(iterate 4 exact rfl))|(apply zak;(iterate 3 exact rfl))|(apply zad;(iterate 2 exact rfl))
       |(apply zax hT;(iterate 4 exact rfl);(iterate 2 (first|omega|(dsimp only;omega))))
       |(apply zas [] [] hmix;decide+kernel)
       |(apply zaw (hs:=(b1 _ (by(intro c hc;(repeat(first|exact hc|apply List.mem_cons_of_mem|apply List.mem_append_right))))));(iterate 7 exact rfl))
       |(apply zaw (hs:=(b2.mono (by(intro c hc;(repeat(first|exact hc|apply List.mem_cons_of_mem|apply List.mem_append_right))))));(iterate 7 exact rfl))
       |(apply zab;(iterate 5 exact rfl);first|(apply zat hT;exact rfl;exact rfl;(repeat(first|exact List.mem_cons_self|apply List.mem_cons_of_mem|apply List.mem_append_right));exact rfl;exact rfl)|(apply zar hT;exact rfl;exact rfl;(repeat(first|exact List.mem_cons_self|apply List.mem_cons_of_mem|apply List.mem_append_right));exact rfl))
       |(apply zav;(iterate 5 exact rfl);intro _)|(apply zac hT;(iterate 5 exact rfl);intro _)
       |(apply zaf;(iterate 2 exact rfl))|(apply zag;(iterate 2 exact rfl))
       |(apply zal;exact rfl;all_goals intro hb;all_goals(fail_if_success (change true=true at hb));all_goals(fail_if_success (change false=false at hb));all_goals(try dsimp only at hb);all_goals(try simp only[hb]);all_goals(first|replace hb:=of_decide_eq_true hb|replace hb:=of_decide_eq_false hb|replace hb:=zap hb|replace hb:=zaq hb|replace hb:=eq_of_beq hb|replace hb:=ne_of_beq_false hb|skip);all_goals(try(exfalso;omega)))
       |(apply zao;exact rfl;all_goals intro hb;all_goals(try dsimp only at hb);all_goals(try simp only[hb]);all_goals(first|replace hb:=of_decide_eq_true hb|replace hb:=of_decide_eq_false hb|replace hb:=zap hb|replace hb:=zaq hb|replace hb:=eq_of_beq hb|replace hb:=ne_of_beq_false hb|skip);all_goals(try(exfalso;omega))))
      all_goals first
       |(exfalso;omega)
       |exact zaO (m+1) (by(try dsimp only);omega) ⟨by(try dsimp only);omega,fun i hi=>by
         by_cases e:i=m
         ·rw[e,hbq,hbv]
         ·exact hgm i (by(try dsimp only at hi);omega)⟩ ⟨rfl,rfl,rfl,rfl,rfl,rfl,rfl,rfl,rfl,trivial⟩ dX
       |skip
     ·have hno:eqPs np nb w v=false:=zdI hlt (zd4 hlm hbq)
      generalize za8 w k m=bw at b1 hbq
      generalize za8 v k m=bv at b2 hbq
      repeat' (first
       |apply zaA|apply zaa|apply zaz|apply zam|apply zan|apply zae|apply zay
       |(apply zaj hT;(iterate 4 exact rfl))|(apply zak;(iterate 3 exact rfl))|(apply zad;(iterate 2 exact rfl))
       |(apply zax hT;(iterate 4 exact rfl);(iterate 2 (first|omega|(dsimp only;omega))))
       |(apply zas [] [] hmix;decide+kernel)
       |(apply zaw (hs:=(b1 _ (by(intro c hc;(repeat(first|exact hc|apply List.mem_cons_of_mem|apply List.mem_append_right))))));(iterate 7 exact rfl))
       |(apply zaw (hs:=(b2.mono (by(intro c hc;(repeat(first|exact hc|apply List.mem_cons_of_mem|apply List.mem_append_right))))));(iterate 7 exact rfl))
       |(apply zab;(iterate 5 exact rfl);first|(apply zat hT;exact rfl;exact rfl;(repeat(first|exact List.mem_cons_self|apply List.mem_cons_of_mem|apply List.mem_append_right));exact rfl;exact rfl)|(apply zar hT;exact rfl;exact rfl;(repeat(first|exact List.mem_cons_self|apply List.mem_cons_of_mem|apply List.mem_append_right));exact rfl))
       |(apply zav;(iterate 5 exact rfl);intro _)|(apply zac hT;(iterate 5 exact rfl);intro _)
       |(apply zaf;(iterate 2 exact rfl))|(apply zag;(iterate 2 exact rfl))
       |(apply zal;exact rfl;all_goals intro hb;all_goals(fail_if_success (change true=true at hb));all_goals(fail_if_success (change false=false at hb));all_goals(try dsimp only at hb);all_goals(try simp only[hb]);all_goals(first|replace hb:=of_decide_eq_true hb|replace hb:=of_decide_eq_false hb|replace hb:=zap hb|replace hb:=zaq hb|replace hb:=eq_of_beq hb|replace hb:=ne_of_beq_false hb|skip);all_goals(try(exfalso;omega)))
       |(apply zao;exact rfl;all_goals intro hb;all_goals(try dsimp only at hb);all_goals(try simp only[hb]);all_goals(first|replace hb:=of_decide_eq_true hb|replace hb:=of_decide_eq_false hb|replace hb:=zap hb|replace hb:=zaq hb|replace hb:=eq_of_beq hb|replace hb:=ne_of_beq_false hb|skip);all_goals(try(exfalso;omega))))
      all_goals first
       |(exfalso;omega)
       |(apply ret1;exact rfl;exact⟨by rw[hno],zbb (show zaL _ H1 from dX) hdr⟩)
       |skip
    ·obtain rfl:m=nb:=by omega
     have hd3:decide ((m:Int)<(m:Int))=false:=by simp
     have hone:zbS m w v k=true:=zd3 (by rw[hc,hcv]) hgm
     repeat' (first
      |apply zaA|apply zaa|apply zaz|apply zam|apply zan|apply zae|apply zay
      |(apply zaj hT;(iterate 4 exact rfl))|(apply zak;(iterate 3 exact rfl))|(apply zad;(iterate 2 exact rfl))
      |(apply zax hT;(iterate 4 exact rfl);(iterate 2 (first|omega|(dsimp only;omega))))
      |(apply zas [] [] hmix;decide+kernel)
      |(apply zab;(iterate 5 exact rfl);first|(apply zat hT;exact rfl;exact rfl;(repeat(first|exact List.mem_cons_self|apply List.mem_cons_of_mem|apply List.mem_append_right));exact rfl;exact rfl)|(apply zar hT;exact rfl;exact rfl;(repeat(first|exact List.mem_cons_self|apply List.mem_cons_of_mem|apply List.mem_append_right));exact rfl))
      |(apply zav;(iterate 5 exact rfl);intro _)|(apply zac hT;(iterate 5 exact rfl);intro _)
      |(apply zaf;(iterate 2 exact rfl))|(apply zag;(iterate 2 exact rfl))
      |(apply zal;exact rfl;all_goals intro hb;all_goals(fail_if_success (change true=true at hb));all_goals(fail_if_success (change false=false at hb));all_goals(try dsimp only at hb);all_goals(try simp only[hb]);all_goals(first|replace hb:=of_decide_eq_true hb|replace hb:=of_decide_eq_false hb|replace hb:=zap hb|replace hb:=zaq hb|replace hb:=eq_of_beq hb|replace hb:=ne_of_beq_false hb|skip);all_goals(try(exfalso;omega)))
      |(apply zao;exact rfl;all_goals intro hb;all_goals(try dsimp only at hb);all_goals(try simp only[hb]);all_goals(first|replace hb:=of_decide_eq_true hb|replace hb:=of_decide_eq_false hb|replace hb:=zap hb|replace hb:=zaq hb|replace hb:=eq_of_beq hb|replace hb:=ne_of_beq_false hb|skip);all_goals(try(exfalso;omega))))
     all_goals first
      |(exfalso;omega)
      |exact zaO (k+1) (by(try dsimp only);omega) ⟨by(try dsimp only);omega,zd2 (np:=np) hgd hone⟩ ⟨rfl,rfl,rfl,rfl,rfl,rfl,trivial⟩ dX
      |skip
   ·have hno:eqPs np nb w v=false:=zdI hlt (zdm hc)
    generalize za0 w k=cw at c1 hc
    generalize za0 v k=cv at c2 hc
    repeat' (first
     |apply zaA|apply zaa|apply zaz|apply zam|apply zan|apply zae|apply zay
     |(apply zaj hT;(iterate 4 exact rfl))|(apply zak;(iterate 3 exact rfl))|(apply zad;(iterate 2 exact rfl))
     |(apply zax hT;(iterate 4 exact rfl);(iterate 2 (first|omega|(dsimp only;omega))))
     |(apply zas [] [] hmix;decide+kernel)
     |(apply zaw (hs:=(c1 _ (by(intro c hc;(repeat(first|exact hc|apply List.mem_cons_of_mem|apply List.mem_append_right))))));(iterate 7 exact rfl))
     |(apply zaw (hs:=(c2.mono (by(intro c hc;(repeat(first|exact hc|apply List.mem_cons_of_mem|apply List.mem_append_right))))));(iterate 7 exact rfl))
     |(apply zab;(iterate 5 exact rfl);first|(apply zat hT;exact rfl;exact rfl;(repeat(first|exact List.mem_cons_self|apply List.mem_cons_of_mem|apply List.mem_append_right));exact rfl;exact rfl)|(apply zar hT;exact rfl;exact rfl;(repeat(first|exact List.mem_cons_self|apply List.mem_cons_of_mem|apply List.mem_append_right));exact rfl))
     |(apply zav;(iterate 5 exact rfl);intro _)|(apply zac hT;(iterate 5 exact rfl);intro _)
     |(apply zaf;(iterate 2 exact rfl))|(apply zag;(iterate 2 exact rfl))
     |(apply zal;exact rfl;all_goals intro hb;all_goals(fail_if_success (change true=true at hb));all_goals(fail_if_success (change false=false at hb));all_goals(try dsimp only at hb);all_goals(try simp only[hb]);all_goals(first|replace hb:=of_decide_eq_true hb|replace hb:=of_decide_eq_false hb|replace hb:=zap hb|replace hb:=zaq hb|replace hb:=eq_of_beq hb|replace hb:=ne_of_beq_false hb|skip);all_goals(try(exfalso;omega)))
     |(apply zao;exact rfl;all_goals intro hb;all_goals(try dsimp only at hb);all_goals(try simp only[hb]);all_goals(first|replace hb:=of_decide_eq_true hb|replace hb:=of_decide_eq_false hb|replace hb:=zap hb|replace hb:=zaq hb|replace hb:=eq_of_beq hb|replace hb:=ne_of_beq_false hb|skip);all_goals(try(exfalso;omega))))
    all_goals first
     |(exfalso;omega)
     |(apply ret1;exact rfl;exact⟨by rw[hno],zbb (show zaL _ H1 from dX) hdr⟩)
     |skip
  ·obtain rfl:k=np:=by omega
   have hd2:decide ((k:Int)<(k:Int))=false:=by simp
   repeat' (first
    |apply zaA|apply zaa|apply zaz|apply zam|apply zan|apply zae|apply zay
    |(apply zaj hT;(iterate 4 exact rfl))|(apply zak;(iterate 3 exact rfl))|(apply zad;(iterate 2 exact rfl))
    |(apply zax hT;(iterate 4 exact rfl);(iterate 2 (first|omega|(dsimp only;omega))))
    |(apply zas [] [] hmix;decide+kernel)
    |(apply zab;(iterate 5 exact rfl);first|(apply zat hT;exact rfl;exact rfl;(repeat(first|exact List.mem_cons_self|apply List.mem_cons_of_mem|apply List.mem_append_right));exact rfl;exact rfl)|(apply zar hT;exact rfl;exact rfl;(repeat(first|exact List.mem_cons_self|apply List.mem_cons_of_mem|apply List.mem_append_right));exact rfl))
    |(apply zav;(iterate 5 exact rfl);intro _)|(apply zac hT;(iterate 5 exact rfl);intro _)
    |(apply zaf;(iterate 2 exact rfl))|(apply zag;(iterate 2 exact rfl))
    |(apply zal;exact rfl;all_goals intro hb;all_goals(fail_if_success (change true=true at hb));all_goals(fail_if_success (change false=false at hb));all_goals(try dsimp only at hb);all_goals(try simp only[hb]);all_goals(first|replace hb:=of_decide_eq_true hb|replace hb:=of_decide_eq_false hb|replace hb:=zap hb|replace hb:=zaq hb|replace hb:=eq_of_beq hb|replace hb:=ne_of_beq_false hb|skip);all_goals(try(exfalso;omega)))
    |(apply zao;exact rfl;all_goals intro hb;all_goals(try dsimp only at hb);all_goals(try simp only[hb]);all_goals(first|replace hb:=of_decide_eq_true hb|replace hb:=of_decide_eq_false hb|replace hb:=zap hb|replace hb:=zaq hb|replace hb:=eq_of_beq hb|replace hb:=ne_of_beq_false hb|skip);all_goals(try(exfalso;omega))))
   all_goals first
    |(exfalso;omega)
    |(apply ret1;exact rfl;exact⟨by rw[zeX hgd],zbb (show zaL _ H1 from dX) hdr⟩)
    |skip
end Go.Proofs.YteocfhdocpeokaaGreat
set_option linter.unusedSimpArgs false
set_option linter.unusedVariables false
namespace Go.Proofs.YteocfhdocpeokaaGreat
open Go Go.Sl
attribute [local irreducible] AW ES EP Ld RetQ
set_option maxRecDepth 100000
theorem zd6 (W:World)(a b:Int)(ha:inW a)(hb:inW b):zaC Tryz.prog W 32 [.int .i64 a,.int .i64 b] [] (okI (a+b)):=by
 unfold inW at*
 refine zaC.ofD (fun h' hs=> ?_)
 unfold okI
 cases hI:inI (a+b)
 ·have hr:=ze5 hI
  refine zau Tryz.func32 rfl rfl Tryz.results32 Tryz.ntmps32 rfl rfl ?_
  repeat' (first
   |apply zaA|apply zaa|apply zaz|apply zam|apply zan|apply zae|apply zay
   |(apply zaj hT;(iterate 4 exact rfl))|(apply zak;(iterate 3 exact rfl))|(apply zad;(iterate 2 exact rfl))
   |(apply zax hT;(iterate 4 exact rfl);(iterate 2 (first|omega|(dsimp only;omega))))
   |(apply zas [] [] hmix;decide+kernel)
   |(apply zab;(iterate 5 exact rfl);first|(apply zat hT;exact rfl;exact rfl;(repeat(first|exact List.mem_cons_self|apply List.mem_cons_of_mem|apply List.mem_append_right));exact rfl;exact rfl)|(apply zar hT;exact rfl;exact rfl;(repeat(first|exact List.mem_cons_self|apply List.mem_cons_of_mem|apply List.mem_append_right));exact rfl))
   |(apply zav;(iterate 5 exact rfl);intro _)|(apply zac hT;(iterate 5 exact rfl);intro _)
   |(apply zaf;(iterate 2 exact rfl))|(apply zag;(iterate 2 exact rfl))
   |(apply zal;exact rfl;all_goals intro hb;all_goals(fail_if_success (change true=true at hb));all_goals(fail_if_success (change false=false at hb));all_goals(try dsimp only at hb);all_goals(try simp only[hb]);all_goals(first|replace hb:=of_decide_eq_true hb|replace hb:=of_decide_eq_false hb|replace hb:=zap hb|replace hb:=zaq hb|replace hb:=eq_of_beq hb|replace hb:=ne_of_beq_false hb|skip);all_goals(try(exfalso;omega)))
   |(apply zao;exact rfl;all_goals intro hb;all_goals(try dsimp only at hb);all_goals(try simp only[hb]);all_goals(first|replace hb:=of_decide_eq_true hb|replace hb:=of_decide_eq_false hb|replace hb:=zap hb|replace hb:=zaq hb|replace hb:=eq_of_beq hb|replace hb:=ne_of_beq_false hb|skip);all_goals(try(exfalso;omega))))
  all_goals first
   |(exfalso;omega)
   |(apply ret2;exact rfl;exact rfl;exact⟨rfl,dX⟩)
   |skip
 ·have hr:=zcT hI
  refine zau Tryz.func32 rfl rfl Tryz.results32 Tryz.ntmps32 rfl rfl ?_
  repeat' (first
   |apply zaA|apply zaa|apply zaz|apply zam|apply zan|apply zae|apply zay
   |(apply zaj hT;(iterate 4 exact rfl))|(apply zak;(iterate 3 exact rfl))|(apply zad;(iterate 2 exact rfl))
   |(apply zax hT;(iterate 4 exact rfl);(iterate 2 (first|omega|(dsimp only;omega))))
   |(apply zas [] [] hmix;decide+kernel)
   |(apply zab;(iterate 5 exact rfl);first|(apply zat hT;exact rfl;exact rfl;(repeat(first|exact List.mem_cons_self|apply List.mem_cons_of_mem|apply List.mem_append_right));exact rfl;exact rfl)|(apply zar hT;exact rfl;exact rfl;(repeat(first|exact List.mem_cons_self|apply List.mem_cons_of_mem|apply List.mem_append_right));exact rfl))
   |(apply zav;(iterate 5 exact rfl);intro _)|(apply zac hT;(iterate 5 exact rfl);intro _)
   |(apply zaf;(iterate 2 exact rfl))|(apply zag;(iterate 2 exact rfl))
   |(apply zal;exact rfl;all_goals intro hb;all_goals(fail_if_success (change true=true at hb));all_goals(fail_if_success (change false=false at hb));all_goals(try dsimp only at hb);all_goals(try simp only[hb]);all_goals(first|replace hb:=of_decide_eq_true hb|replace hb:=of_decide_eq_false hb|replace hb:=zap hb|replace hb:=zaq hb|replace hb:=eq_of_beq hb|replace hb:=ne_of_beq_false hb|skip);all_goals(try(exfalso;omega)))
   |(apply zao;exact rfl;all_goals intro hb;all_goals(try dsimp only at hb);all_goals(try simp only[hb]);all_goals(first|replace hb:=of_decide_eq_true hb|replace hb:=of_decide_eq_false hb|replace hb:=zap hb|replace hb:=zaq hb|replace hb:=eq_of_beq hb|replace hb:=ne_of_beq_false hb|skip);all_goals(try(exfalso;omega))))
  all_goals first
   |(exfalso;omega)
   |(apply ret2;exact rfl;exact rfl;exact⟨rfl,dX⟩)
   |skip
theorem zd7 (W:World)(a b:Int)(ha:inW a)(hb:inW b):zaC Tryz.prog W 33 [.int .i64 a,.int .i64 b] [] (okI (a - b)):=by
 unfold inW at*
 refine zaC.ofD (fun h' hs=> ?_)
 unfold okI
 cases hI:inI (a - b)
 ·have hr:=ze5 hI
  refine zau Tryz.func33 rfl rfl Tryz.results33 Tryz.ntmps33 rfl rfl ?_
  repeat' (first
   |apply zaA|apply zaa|apply zaz|apply zam|apply zan|apply zae|apply zay
   |(apply zaj hT;(iterate 4 exact rfl))|(apply zak;(iterate 3 exact rfl))|(apply zad;(iterate 2 exact rfl))
   |(apply zax hT;(iterate 4 exact rfl);(iterate 2 (first|omega|(dsimp only;omega))))
   |(apply zas [] [] hmix;decide+kernel)
   |(apply zab;(iterate 5 exact rfl);first|(apply zat hT;exact rfl;exact rfl;(repeat(first|exact List.mem_cons_self|apply List.mem_cons_of_mem|apply List.mem_append_right));exact rfl;exact rfl)|(apply zar hT;exact rfl;exact rfl;(repeat(first|exact List.mem_cons_self|apply List.mem_cons_of_mem|apply List.mem_append_right));exact rfl))
   |(apply zav;(iterate 5 exact rfl);intro _)|(apply zac hT;(iterate 5 exact rfl);intro _)
   |(apply zaf;(iterate 2 exact rfl))|(apply zag;(iterate 2 exact rfl))
   |(apply zal;exact rfl;all_goals intro hb;all_goals(fail_if_success (change true=true at hb));all_goals(fail_if_success (change false=false at hb));all_goals(try dsimp only at hb);all_goals(try simp only[hb]);all_goals(first|replace hb:=of_decide_eq_true hb|replace hb:=of_decide_eq_false hb|replace hb:=zap hb|replace hb:=zaq hb|replace hb:=eq_of_beq hb|replace hb:=ne_of_beq_false hb|skip);all_goals(try(exfalso;omega)))
   |(apply zao;exact rfl;all_goals intro hb;all_goals(try dsimp only at hb);all_goals(try simp only[hb]);all_goals(first|replace hb:=of_decide_eq_true hb|replace hb:=of_decide_eq_false hb|replace hb:=zap hb|replace hb:=zaq hb|replace hb:=eq_of_beq hb|replace hb:=ne_of_beq_false hb|skip);all_goals(try(exfalso;omega))))
  all_goals first
   |(exfalso;omega)
   |(apply ret2;exact rfl;exact rfl;exact⟨rfl,dX⟩)
   |skip
 ·have hr:=zcT hI
  refine zau Tryz.func33 rfl rfl Tryz.results33 Tryz.ntmps33 rfl rfl ?_
  repeat' (first
   |apply zaA|apply zaa|apply zaz|apply zam|apply zan|apply zae|apply zay
   |(apply zaj hT;(iterate 4 exact rfl))|(apply zak;(iterate 3 exact rfl))|(apply zad;(iterate 2 exact rfl))
   |(apply zax hT;(iterate 4 exact rfl);(iterate 2 (first|omega|(dsimp only;omega))))
   |(apply zas [] [] hmix;decide+kernel)
   |(apply zab;(iterate 5 exact rfl);first|(apply zat hT;exact rfl;exact rfl;(repeat(first|exact List.mem_cons_self|apply List.mem_cons_of_mem|apply List.mem_append_right));exact rfl;exact rfl)|(apply zar hT;exact rfl;exact rfl;(repeat(first|exact List.mem_cons_self|apply List.mem_cons_of_mem|apply List.mem_append_right));exact rfl))
   |(apply zav;(iterate 5 exact rfl);intro _)|(apply zac hT;(iterate 5 exact rfl);intro _)
   |(apply zaf;(iterate 2 exact rfl))|(apply zag;(iterate 2 exact rfl))
   |(apply zal;exact rfl;all_goals intro hb;all_goals(fail_if_success (change true=true at hb));all_goals(fail_if_success (change false=false at hb));all_goals(try dsimp only at hb);all_goals(try simp only[hb]);all_goals(first|replace hb:=of_decide_eq_true hb|replace hb:=of_decide_eq_false hb|replace hb:=zap hb|replace hb:=zaq hb|replace hb:=eq_of_beq hb|replace hb:=ne_of_beq_false hb|skip);all_goals(try(exfalso;omega)))
   |(apply zao;exact rfl;all_goals intro hb;all_goals(try dsimp only at hb);all_goals(try simp only[hb]);all_goals(first|replace hb:=of_decide_eq_true hb|replace hb:=of_decide_eq_false hb|replace hb:=zap hb|replace hb:=zaq hb|replace hb:=eq_of_beq hb|replace hb:=ne_of_beq_false hb|skip);all_goals(try(exfalso;omega))))
  all_goals first
   |(exfalso;omega)
   |(apply ret2;exact rfl;exact rfl;exact⟨rfl,dX⟩)
   |skip
theorem zet (W:World)(n:Nat)(hn:n<340282366920938463463374607431768211456):zaC Tryz.prog W 31 [.agg (zda n).toArray] [] (okI n):=by
 refine zaC.ofD (fun h' hs=> ?_)
 unfold okI
 cases hI:inI (n:Int)
 ·have hr:=ze5 hI
  refine zau Tryz.func31 rfl rfl Tryz.results31 Tryz.ntmps31 rfl rfl ?_
  repeat' (first
   |apply zaA|apply zaa|apply zaz|apply zam|apply zan|apply zae|apply zay
   |(apply zaj hT;(iterate 4 exact rfl))|(apply zak;(iterate 3 exact rfl))|(apply zad;(iterate 2 exact rfl))
   |(apply zax hT;(iterate 4 exact rfl);(iterate 2 (first|omega|(dsimp only;omega))))
   |(apply zas [] [] hmix;decide+kernel)
   |(apply zab;(iterate 5 exact rfl);first|(apply zat hT;exact rfl;exact rfl;(repeat(first|exact List.mem_cons_self|apply List.mem_cons_of_mem|apply List.mem_append_right));exact rfl;exact rfl)|(apply zar hT;exact rfl;exact rfl;(repeat(first|exact List.mem_cons_self|apply List.mem_cons_of_mem|apply List.mem_append_right));exact rfl))
   |(apply zav;(iterate 5 exact rfl);intro _)|(apply zac hT;(iterate 5 exact rfl);intro _)
   |(apply zaf;(iterate 2 exact rfl))|(apply zag;(iterate 2 exact rfl))
   |(apply zal;exact rfl;all_goals intro hb;all_goals(fail_if_success (change true=true at hb));all_goals(fail_if_success (change false=false at hb));all_goals(try dsimp only at hb);all_goals(try simp only[hb]);all_goals(first|replace hb:=of_decide_eq_true hb|replace hb:=of_decide_eq_false hb|replace hb:=zap hb|replace hb:=zaq hb|replace hb:=eq_of_beq hb|replace hb:=ne_of_beq_false hb|skip);all_goals(try(exfalso;omega)))
   |(apply zao;exact rfl;all_goals intro hb;all_goals(try dsimp only at hb);all_goals(try simp only[hb]);all_goals(first|replace hb:=of_decide_eq_true hb|replace hb:=of_decide_eq_false hb|replace hb:=zap hb|replace hb:=zaq hb|replace hb:=eq_of_beq hb|replace hb:=ne_of_beq_false hb|skip);all_goals(try(exfalso;omega))))
  all_goals first
   |(exfalso;omega)
   |(apply ret2;exact rfl;exact rfl;exact⟨rfl,dX⟩)
   |skip
 ·have hr:=zcT hI
  refine zau Tryz.func31 rfl rfl Tryz.results31 Tryz.ntmps31 rfl rfl ?_
  repeat' (first
   |apply zaA|apply zaa|apply zaz|apply zam|apply zan|apply zae|apply zay
   |(apply zaj hT;(iterate 4 exact rfl))|(apply zak;(iterate 3 exact rfl))|(apply zad;(iterate 2 exact rfl))
   |(apply zax hT;(iterate 4 exact rfl);(iterate 2 (first|omega|(dsimp only;omega))))
   |(apply zas [] [] hmix;decide+kernel)
   |(apply zab;(iterate 5 exact rfl);first|(apply zat hT;exact rfl;exact rfl;(repeat(first|exact List.mem_cons_self|apply List.mem_cons_of_mem|apply List.mem_append_right));exact rfl;exact rfl)|(apply zar hT;exact rfl;exact rfl;(repeat(first|exact List.mem_cons_self|apply List.mem_cons_of_mem|apply List.mem_append_right));exact rfl))
   |(apply zav;(iterate 5 exact rfl);intro _)|(apply zac hT;(iterate 5 exact rfl);intro _)
   |(apply zaf;(iterate 2 exact rfl))|(apply zag;(iterate 2 exact rfl))
   |(apply zal;exact rfl;all_goals intro hb;all_goals(fail_if_success (change true=true at hb));all_goals(fail_if_success (change false=false at hb));all_goals(try dsimp only at hb);all_goals(try simp only[hb]);all_goals(first|replace hb:=of_decide_eq_true hb|replace hb:=of_decide_eq_false hb|replace hb:=zap hb|replace hb:=zaq hb|replace hb:=eq_of_beq hb|replace hb:=ne_of_beq_false hb|skip);all_goals(try(exfalso;omega)))
   |(apply zao;exact rfl;all_goals intro hb;all_goals(try dsimp only at hb);all_goals(try simp only[hb]);all_goals(first|replace hb:=of_decide_eq_true hb|replace hb:=of_decide_eq_false hb|replace hb:=zap hb|replace hb:=zaq hb|replace hb:=eq_of_beq hb|replace hb:=ne_of_beq_false hb|skip);all_goals(try(exfalso;omega))))
  all_goals first
   |(exfalso;omega)
   |(apply ret2;exact rfl;exact rfl;exact⟨by simp[Nat.mod_eq_of_lt (show n<18446744073709551616 by omega)],dX⟩)
   |skip
end Go.Proofs.YteocfhdocpeokaaGreat
set_option linter.unusedSimpArgs false
set_option linter.unusedVariables false
namespace Go.Sl
open Go Go.RowKit
theorem zaE.first {P:Program}{W:World}{h:List zah}{A:Option Addr}{n m k:Nat}{cs:List Value}(hr:zaE W h A n k cs)(hm:m≤n):zaE W h A m k (cs.take (m*k)):=
 ⟨by rw[llt,hr.1];exact Nat.min_eq_left (Nat.mul_le_mul_right k hm),fun v hv=>hr.2.1 v (List.mem_of_mem_take hv),fun w hw j v hj=>hr.2.2 w hw j v (by
   rw[List.getElem?_take]at hj
   split at hj
   ·exact hj
   ·cases hj)⟩
/-- kinds where stores leave what is looked at -/
def kfSk (o:Oper):Kd:=
 match o.op with
 | .load .. =>.look
 | .store .. =>.grow
 | .box .. | .alloc .. | .buildSlice .. | .makeSlice .. =>.alloc
 | .mapUpdate .. | .mapEntry .. | .entryStore .. | .insert .. | .makeMap .. | .lookup .. =>.write
 | .call {callee:=.builtin b,.. }=>(match b with
   | .len| .min| .max| .cap=>.pure
   |_=>.write)
 | .call _=>.write
 |_=>.pure
def kfS (H:List zah):KF:=⟨kfSk,H⟩
theorem zge {P:Program}{W:World}{N:Nat}{env:Env}{h:List zah}{Q:Exit→Env→List zah→Prop}(H:List zah){id:Nat}{ol:List Oper}(p:Plan)(hm:P.follows .mixedOrders=true)
 (hp:(Region.noSelect ol.toArray&&(p.len==ol.toArray.size&&(p.even&&Plan.ok (kdOf (kfS []) ol.toArray) ol.toArray (Region.before ol.toArray) false p (Array.replicate ol.toArray.size false))))=true)
 (hep:EP P W N (kfS H) ol.toArray p env h fun env' h'=>Q .normal env' h'):AW P W N (.region id ol.toArray true) env h Q:=fun a w ha hw=>by
 exact zcL (W:=W) (kp:=H) (kd:=kdOf (kfS H) ol.toArray) (Q:=fun a' h'=>∃env',Q .normal env' h'∧za3 N env' a') (fun a' h' w' hw' ⟨env',hq,ha'⟩=>⟨env',h',hq,ha',hw'⟩) hm hp hw (hep a ha)
theorem zby {P:Program}{W:World}{N:Nat}{T:Tab}{env:Env}{h h':List zah}{kf:KF}{ops:Array Oper}{K:Env→List zah→Prop}{rest:List Oper}(hT:zbc P T){b:Bool}{ty pos af g}{t:TypeId}{ti:TI}{x y:Operand}{ad:Addr}{A:Option Addr}{n c k o:Nat}{v:Value}{tt:TypeId}{cs:List Value}(hg:zba ops env g=some b)(hb:b=true)
 (hk:(kf ⟨none,.store t x y,ty,pos,af,g⟩).gr=true) (hx:zaR env x=some (.pointer (some ad))) (hy:zaR env y=some v) (ht:T.lookup t=some ti)
 (hp:h.Perm (.own A n c tt k cs::h')) (had:ad=adr A o) (hsz:v.cells.size=ti.size) (h1:v.cells.toList.all Value.oneCell'=true) (hl:o+ti.size≤n*k) (h0:0<n) (hkp:∀u∈kf.keep,u∈zah.own A n c tt k (lay cs o v.cells.toList)::h')
 (hK:ES P W N kf ops rest env (.own A n c tt k (lay cs o v.cells.toList)::h') K):ES P W N kf ops (⟨none,.store t x y,ty,pos,af,g⟩::rest) env h K:=fun a ha=>by
 subst hb
 refine zen (it:=zaX kf ops ⟨none,.store t x y,ty,pos,af,g⟩) (zaZ ha hg) (zhn hk) (fun w hw=> ?_)
 have hw':=hw.perm hp
 have ho:=hw'.holds (.own A n c tt k cs) (by simp)
 rcases ho.1.2 with ⟨_,hn⟩|⟨gb,cap,cur,hv,hbb,hgb,hnc,hcm,hcs,htk⟩
 ·omega
 ·injection hv with hA _ hc
  subst hA hc
  have had':ad=⟨gb,o,none⟩:=by rw[had];simp[adr,zdy]
  subst had'
  have hle:n*k≤cur.size:=by rw[hcs];exact Nat.mul_le_mul_right k hnc
  have:=zcb hT ht (g:=gb) (off:=o) hsz h1 hgb (by omega)
  unfold Oper.wp
  simp only[zaX,execOp,ha.eval hx,ha.eval hy,Sem.run_bind,this,Result.andThen_ok,Sem.run_pure,Oper.upon_skip]
  refine⟨_,⟨?_,hkp⟩,hK _ ha⟩
  have hlen:=ho.1.1
  have hvl:v.cells.toList.length=ti.size:=by simpa using hsz
  have hcl:(cur.toList.take (n*k)).length=n*k:=by simp;omega
  refine hw'.setRow_own hgb (n':=n) ?_ ?_ ?_ hnc ?_
  ·simp only[lla,llt,List.length_drop,Array.length_toList,hvl];omega
  ·rw[←htk,lay,hvl]
   rw[List.take_take,List.take_append,List.take_append,lla,llt,Array.length_toList,hvl]
   rw[List.take_of_length_le (l:=List.take o cur.toList) (by simp;omega),List.take_of_length_le (l:=v.cells.toList) (by rw[hvl];omega)]
   rw[Nat.min_eq_left (by omega:o≤cur.size),Nat.min_eq_left (by omega:o≤n*k)]
   congr 1
   rw[List.drop_take]
  ·simp only[lay,lla,llt,List.length_drop,hvl,hlen];omega
  ·intro u hu
   simp only[lay,lma]at hu
   rcases hu with (hu|hu)|hu
   ·exact ho.2 u (List.mem_of_mem_take hu)
   ·exact List.all_eq_true.1 h1 u hu
   ·exact ho.2 u (List.mem_of_mem_drop hu)
end Go.Sl
set_option linter.unusedSimpArgs false
set_option linter.unusedVariables false
namespace Go.Proofs.YteocfhdocpeokaaGreat
open Go Go.Sl
attribute [local irreducible] AW ES EP Ld RetQ
set_option maxRecDepth 100000
def zaJ (p:Nat)(AC:Option Addr)(cC:Nat)(AR:Option Addr)(cR:Nat)(cash:List Int)(rs:List PRow)(F:List zah):List zah:=
 .blk p 71 [.slice AR rs.length cR,.slice AC cash.length cC]::.own AC cash.length cC 2 1 (cash.map (Value.int .i64))::.own AR rs.length cR 66 1 (rs.map PRow.hd)::(rs.map PRow.ck++F)
theorem zce {p:Nat}{AC:Option Addr}{cC:Nat}{AR:Option Addr}{cR:Nat}{cash:List Int}{rs:List PRow}{F:List zah}:∀c∈zaJ p AC cC AR cR cash rs [],c∈zaJ p AC cC AR cR cash rs F:=fun c hc=>by
 unfold zaJ at*
 rw[List.append_nil]at hc
 rcases List.mem_cons.1 hc with rfl|hc
 ·exact mem0
 rcases List.mem_cons.1 hc with rfl|hc
 ·exact mem1
 rcases List.mem_cons.1 hc with rfl|hc
 ·exact mem2
 exact List.mem_cons_of_mem _ (List.mem_cons_of_mem _ (List.mem_cons_of_mem _ (List.mem_append_left _ hc)))
theorem zbp {p:Nat}{AC:Option Addr}{cC:Nat}{AR:Option Addr}{cR:Nat}{cash:List Int}{rs:List PRow}{F:List zah}:∀c∈F,c∈zaJ p AC cC AR cR cash rs F:=fun c hc=>by
 unfold zaJ
 exact List.mem_cons_of_mem _ (List.mem_cons_of_mem _ (List.mem_cons_of_mem _ (List.mem_append_right _ hc)))
theorem zcy {p:Nat}{AC:Option Addr}{cC:Nat}{AR:Option Addr}{cR:Nat}{cash:List Int}{rs:List PRow}{F:List zah}:zaL (zaJ p AC cC AR cR cash rs F) F:=zbt (zbt (zbt (zeM zbi)))
theorem zcH (W:World)(p:Nat)(sl:Value)(AC:Option Addr)(cC n:Nat)(who:Int):
 zaC Tryz.prog W 29 [.pointer (some ⟨p,0,none⟩),.int .i64 who] [.blk p 71 [sl,.slice AC n cC]] (.bool (decide (0≤who)&&decide (who<n))):=by
 refine zaC.ofD (fun h' hs=> ?_)
 have m0:=hs _ mem0
 refine zau Tryz.func29 rfl rfl Tryz.results29 Tryz.ntmps29 rfl rfl ?_
 repeat' (first
  |apply zaA|apply zaa|apply zaz|apply zam|apply zan|apply zae|apply zay
  |(apply zaj hT;(iterate 4 exact rfl))|(apply zak;(iterate 3 exact rfl))|(apply zad;(iterate 2 exact rfl))
  |(apply zax hT;(iterate 4 exact rfl);(iterate 2 (first|omega|(dsimp only;omega))))
  |(apply zas [] [] hmix;decide+kernel)
  |(apply zab;(iterate 5 exact rfl);first|(apply zat hT;exact rfl;exact rfl;(repeat(first|exact List.mem_cons_self|exact m0|apply List.mem_cons_of_mem|apply List.mem_append_right));exact rfl;exact rfl)|(apply zar hT;exact rfl;exact rfl;(repeat(first|exact List.mem_cons_self|exact m0|apply List.mem_cons_of_mem|apply List.mem_append_right));exact rfl))
  |(apply zav;(iterate 5 exact rfl);intro _)|(apply zac hT;(iterate 5 exact rfl);intro _)
  |(apply zaf;(iterate 2 exact rfl))|(apply zag;(iterate 2 exact rfl))
  |(apply zal;exact rfl;all_goals intro hb;all_goals(fail_if_success (change true=true at hb));all_goals(fail_if_success (change false=false at hb));all_goals(try dsimp only at hb);all_goals(try simp only[hb]);all_goals(first|replace hb:=of_decide_eq_true hb|replace hb:=of_decide_eq_false hb|replace hb:=zap hb|replace hb:=zaq hb|replace hb:=eq_of_beq hb|replace hb:=ne_of_beq_false hb|skip);all_goals(try(exfalso;omega)))
  |(apply zao;exact rfl;all_goals intro hb;all_goals(try dsimp only at hb);all_goals(try simp only[hb]);all_goals(first|replace hb:=of_decide_eq_true hb|replace hb:=of_decide_eq_false hb|replace hb:=zap hb|replace hb:=zaq hb|replace hb:=eq_of_beq hb|replace hb:=ne_of_beq_false hb|skip);all_goals(try(exfalso;omega))))
 all_goals first
  |(exfalso;omega)
  |(apply ret1;exact rfl;exact⟨by(first|(simp_all;done)|(simp;omega)),dX⟩)
  |skip
theorem zd8 {cash:List Int}{rs:List PRow}{np nb:Nat}(hP:PsOK np nb (psOf cash rs)){who bond:Int}(hv:zbh (psOf cash rs) who bond=false):za8 (psOf cash rs) who bond=0:=by
 unfold za8
 rcases hx:at0 (psOf cash rs).pos who with _|r
 ·rfl
 ·rw[Option.bind_some]
  rcases hy:at0 r bond with _|n
  ·rfl
  ·exfalso
   have h1:=zeS hx
   have h2:=zeS hy
   have h3:=hP.row _ (at0M hx)
   have h4:=hP.np
   have:zbh (psOf cash rs) who bond=true:=(za5 hP).2 ⟨by omega,by omega⟩
   rw[hv]at this;cases this
theorem zfb {cash:List Int}{rs:List PRow}{who:Int}(h:¬(0≤who∧who<cash.length)):za0 (psOf cash rs) who=0:=by
 unfold za0 psOf at0
 dsimp only
 split
 ·rfl
 ·rw[List.getElem?_eq_none (by omega)];rfl
theorem zcZ (W:World)(p:Nat)(AC:Option Addr)(cC:Nat)(AR:Option Addr)(cR:Nat)(cash:List Int)(rs:List PRow)(np nb:Nat)(hP:PsOK np nb (psOf cash rs))(who bond:Int):
 zaC Tryz.prog W 36 [.pointer (some ⟨p,0,none⟩),.int .i64 who,.int .i64 bond] (zaJ p AC cC AR cR cash rs []) (.int .i64 (za8 (psOf cash rs) who bond)):=by
 refine zaC.ofD (fun h' hs=> ?_)
 have m0:=hs _ mem0
 have m1:=hs _ mem2
 have hck:=fun(a:PRow) (ha:a∈rs)=>hs _ (List.mem_cons_of_mem _ (List.mem_cons_of_mem _ (List.mem_cons_of_mem _ (zgD ha))))
 have hnc:=hP.nc
 have hnp:=hP.np
 simp only[psOf,llm]at hnc hnp
 have hlc:rs.length=cash.length:=by omega
 have hI:=fun who k (m:zah.blk p 71 [.slice AR rs.length cR,.slice AC cash.length cC]∈k)=>(zcH W p (.slice AR rs.length cR) AC cC cash.length who).mono (h':=k) (zes m)
 have hrd:=zaT (W:=W) m1
 refine zau Tryz.func36 rfl rfl Tryz.results36 Tryz.ntmps36 rfl rfl ?_
 refine zaK hrd rfl (fun hA=> ?_)
 by_cases hw:0≤who∧who<cash.length
 ·have h1:=(hI who h' m0).cast (u:=.bool true) (by rw[decide_eq_true hw.1,decide_eq_true hw.2];rfl)
  obtain⟨z0,hz0⟩:=zck (i:=0) hP (by omega) (by omega)
  have hz0l:=hz0.len
  have hixz:=zbJ hz0.at_
  have hA':=hA (by omega)
  by_cases hb:0≤bond∧bond<nb
  ·obtain⟨a,ha⟩:=zck hP hw.1 (by omega)
   have hal:=ha.len
   obtain⟨n,hn⟩:∃n,a.l[bond.toNat]? =some n:=⟨a.l[bond.toNat]'(by omega),gge (by omega)⟩
   rw[zbm hw.1 ha.at_ hb.1 hn]
   have hrda:zaE W h' a.A a.l.length 1 (a.l.map (Value.int .i64)):=zaE.ints (hck a (mog ha.at_)) rfl
   refine zaK hrda rfl (fun hB=> ?_)
   have hB':=hB (by omega)
   have hix:=zbJ ha.at_
   have hiy:=zcW (kd:=.i64) hn
   repeat' (first
    |apply zaA|apply zaa|apply zaz|apply zam|apply zan|apply zae|apply zay
    |(apply zaj hT;(iterate 4 exact rfl))|(apply zak;(iterate 3 exact rfl))|(apply zad;(iterate 2 exact rfl))
    |(apply zax hT;(iterate 4 exact rfl);(iterate 2 (first|omega|(dsimp only;omega))))
    |(apply zas [] [] hmix;decide+kernel)
    |(apply zaw (hs:=(h1.mono (by(intro c hc;(repeat(first|exact hc|apply List.mem_cons_of_mem|apply List.mem_append_right))))));(iterate 7 exact rfl))
    |(apply za4 hT;(iterate 8 exact rfl);(iterate 2 omega);first|exact hA'|exact hB')
    |(apply zab;(iterate 5 exact rfl);first|exact zaY hT rfl rfl hrd rfl hix|exact zaY hT rfl rfl hrd rfl hixz|exact zaY hT rfl rfl hrda rfl hiy)
    |(apply zab;(iterate 5 exact rfl);first|(apply zat hT;exact rfl;exact rfl;(repeat(first|exact List.mem_cons_self|exact m0|apply List.mem_cons_of_mem|apply List.mem_append_right));exact rfl;exact rfl)|(apply zar hT;exact rfl;exact rfl;(repeat(first|exact List.mem_cons_self|exact m0|apply List.mem_cons_of_mem|apply List.mem_append_right));exact rfl))
    |(apply zav;(iterate 5 exact rfl);intro _)|(apply zac hT;(iterate 5 exact rfl);intro _)
    |(apply zaf;(iterate 2 exact rfl))|(apply zag;(iterate 2 exact rfl))
    |(apply zal;exact rfl;all_goals intro hb;all_goals(fail_if_success (change true=true at hb));all_goals(fail_if_success (change false=false at hb));all_goals(try dsimp only at hb);all_goals(try simp only[hb]);all_goals(first|replace hb:=of_decide_eq_true hb|replace hb:=of_decide_eq_false hb|replace hb:=zap hb|replace hb:=zaq hb|replace hb:=eq_of_beq hb|replace hb:=ne_of_beq_false hb|skip);all_goals(try(exfalso;omega)))
    |(apply zao;exact rfl;all_goals intro hb;all_goals(try dsimp only at hb);all_goals(try simp only[hb]);all_goals(first|replace hb:=of_decide_eq_true hb|replace hb:=of_decide_eq_false hb|replace hb:=zap hb|replace hb:=zaq hb|replace hb:=eq_of_beq hb|replace hb:=ne_of_beq_false hb|skip);all_goals(try(exfalso;omega))))
   all_goals first
    |(exfalso;omega)
    |(apply ret1;exact rfl;exact⟨rfl,dX⟩)
    |skip
  ·rw[zd8 hP (by cases hv:zbh (psOf cash rs) who bond with|false=>rfl|true=>exact absurd ((za5 hP).1 hv).2 hb)]
   repeat' (first
    |apply zaA|apply zaa|apply zaz|apply zam|apply zan|apply zae|apply zay
    |(apply zaj hT;(iterate 4 exact rfl))|(apply zak;(iterate 3 exact rfl))|(apply zad;(iterate 2 exact rfl))
    |(apply zax hT;(iterate 4 exact rfl);(iterate 2 (first|omega|(dsimp only;omega))))
    |(apply zas [] [] hmix;decide+kernel)
    |(apply zaw (hs:=(h1.mono (by(intro c hc;(repeat(first|exact hc|apply List.mem_cons_of_mem|apply List.mem_append_right))))));(iterate 7 exact rfl))
    |(apply za4 hT;(iterate 8 exact rfl);(iterate 2 omega);exact hA')
    |(apply zab;(iterate 5 exact rfl);exact zaY hT rfl rfl hrd rfl hixz)
    |(apply zab;(iterate 5 exact rfl);first|(apply zat hT;exact rfl;exact rfl;(repeat(first|exact List.mem_cons_self|exact m0|apply List.mem_cons_of_mem|apply List.mem_append_right));exact rfl;exact rfl)|(apply zar hT;exact rfl;exact rfl;(repeat(first|exact List.mem_cons_self|exact m0|apply List.mem_cons_of_mem|apply List.mem_append_right));exact rfl))
    |(apply zav;(iterate 5 exact rfl);intro _)|(apply zac hT;(iterate 5 exact rfl);intro _)
    |(apply zaf;(iterate 2 exact rfl))|(apply zag;(iterate 2 exact rfl))
    |(apply zal;exact rfl;all_goals intro hb;all_goals(fail_if_success (change true=true at hb));all_goals(fail_if_success (change false=false at hb));all_goals(try dsimp only at hb);all_goals(try simp only[hb]);all_goals(first|replace hb:=of_decide_eq_true hb|replace hb:=of_decide_eq_false hb|replace hb:=zap hb|replace hb:=zaq hb|replace hb:=eq_of_beq hb|replace hb:=ne_of_beq_false hb|skip);all_goals(try(exfalso;omega)))
    |(apply zao;exact rfl;all_goals intro hb;all_goals(try dsimp only at hb);all_goals(try simp only[hb]);all_goals(first|replace hb:=of_decide_eq_true hb|replace hb:=of_decide_eq_false hb|replace hb:=zap hb|replace hb:=zaq hb|replace hb:=eq_of_beq hb|replace hb:=ne_of_beq_false hb|skip);all_goals(try(exfalso;omega))))
   all_goals first
    |(exfalso;omega)
    |(apply ret1;exact rfl;exact⟨rfl,dX⟩)
    |skip
 ·have h1:=(hI who h' m0).cast (u:=.bool false) (by
   by_cases h0:0≤who
   ·rw[decide_eq_false (show ¬who<(cash.length:Int)by omega)];simp
   ·rw[decide_eq_false h0];rfl)
  rw[zd8 hP (by cases hv:zbh (psOf cash rs) who bond with|false=>rfl|true=>exact absurd ((za5 hP).1 hv).1 (by omega))]
  repeat' (first
   |apply zaA|apply zaa|apply zaz|apply zam|apply zan|apply zae|apply zay
   |(apply zaj hT;(iterate 4 exact rfl))|(apply zak;(iterate 3 exact rfl))|(apply zad;(iterate 2 exact rfl))
   |(apply zax hT;(iterate 4 exact rfl);(iterate 2 (first|omega|(dsimp only;omega))))
   |(apply zas [] [] hmix;decide+kernel)
   |(apply zaw (hs:=(h1.mono (by(intro c hc;(repeat(first|exact hc|apply List.mem_cons_of_mem|apply List.mem_append_right))))));(iterate 7 exact rfl))
   |(apply zab;(iterate 5 exact rfl);first|(apply zat hT;exact rfl;exact rfl;(repeat(first|exact List.mem_cons_self|exact m0|apply List.mem_cons_of_mem|apply List.mem_append_right));exact rfl;exact rfl)|(apply zar hT;exact rfl;exact rfl;(repeat(first|exact List.mem_cons_self|exact m0|apply List.mem_cons_of_mem|apply List.mem_append_right));exact rfl))
   |(apply zav;(iterate 5 exact rfl);intro _)|(apply zac hT;(iterate 5 exact rfl);intro _)
   |(apply zaf;(iterate 2 exact rfl))|(apply zag;(iterate 2 exact rfl))
   |(apply zal;exact rfl;all_goals intro hb;all_goals(fail_if_success (change true=true at hb));all_goals(fail_if_success (change false=false at hb));all_goals(try dsimp only at hb);all_goals(try simp only[hb]);all_goals(first|replace hb:=of_decide_eq_true hb|replace hb:=of_decide_eq_false hb|replace hb:=zap hb|replace hb:=zaq hb|replace hb:=eq_of_beq hb|replace hb:=ne_of_beq_false hb|skip);all_goals(try(exfalso;omega)))
   |(apply zao;exact rfl;all_goals intro hb;all_goals(try dsimp only at hb);all_goals(try simp only[hb]);all_goals(first|replace hb:=of_decide_eq_true hb|replace hb:=of_decide_eq_false hb|replace hb:=zap hb|replace hb:=zaq hb|replace hb:=eq_of_beq hb|replace hb:=ne_of_beq_false hb|skip);all_goals(try(exfalso;omega))))
  all_goals first
   |(exfalso;omega)
   |(apply ret1;exact rfl;exact⟨rfl,dX⟩)
   |skip
theorem zdp (W:World)(p:Nat)(AC:Option Addr)(cC:Nat)(AR:Option Addr)(cR:Nat)(cash:List Int)(rs:List PRow)(np nb:Nat)(hP:PsOK np nb (psOf cash rs))(who:Int):
 zaC Tryz.prog W 37 [.pointer (some ⟨p,0,none⟩),.int .i64 who] (zaJ p AC cC AR cR cash rs []) (.int .i64 (za0 (psOf cash rs) who)):=by
 refine zaC.ofD (fun h' hs=> ?_)
 have m0:=hs _ mem0
 have m1:=hs _ mem1
 have hnc:=hP.nc
 have hnp:=hP.np
 simp only[psOf,llm]at hnc hnp
 have hlc:rs.length=cash.length:=by omega
 have hI:=fun who k (m:zah.blk p 71 [.slice AR rs.length cR,.slice AC cash.length cC]∈k)=>(zcH W p (.slice AR rs.length cR) AC cC cash.length who).mono (h':=k) (zes m)
 have hrd:=zaE.ints (W:=W) m1 rfl
 refine zau Tryz.func37 rfl rfl Tryz.results37 Tryz.ntmps37 rfl rfl ?_
 refine zaK hrd rfl (fun hA=> ?_)
 by_cases hw:0≤who∧who<cash.length
 ·have h1:=(hI who h' m0).cast (u:=.bool true) (by rw[decide_eq_true hw.1,decide_eq_true hw.2];rfl)
  obtain⟨n,hn⟩:∃n,cash[who.toNat]? =some n:=⟨cash[who.toNat]'(by omega),gge (by omega)⟩
  rw[zbk hw.1 hn]
  have hA':=hA (by omega)
  have hiy:=zcW (kd:=.i64) hn
  repeat' (first
   |apply zaA|apply zaa|apply zaz|apply zam|apply zan|apply zae|apply zay
   |(apply zaj hT;(iterate 4 exact rfl))|(apply zak;(iterate 3 exact rfl))|(apply zad;(iterate 2 exact rfl))
   |(apply zax hT;(iterate 4 exact rfl);(iterate 2 (first|omega|(dsimp only;omega))))
   |(apply zas [] [] hmix;decide+kernel)
   |(apply zaw (hs:=(h1.mono (by(intro c hc;(repeat(first|exact hc|apply List.mem_cons_of_mem|apply List.mem_append_right))))));(iterate 7 exact rfl))
   |(apply za4 hT;(iterate 8 exact rfl);(iterate 2 omega);exact hA')
   |(apply zab;(iterate 5 exact rfl);exact zaY hT rfl rfl hrd rfl hiy)
   |(apply zab;(iterate 5 exact rfl);first|(apply zat hT;exact rfl;exact rfl;(repeat(first|exact List.mem_cons_self|exact m0|apply List.mem_cons_of_mem|apply List.mem_append_right));exact rfl;exact rfl)|(apply zar hT;exact rfl;exact rfl;(repeat(first|exact List.mem_cons_self|exact m0|apply List.mem_cons_of_mem|apply List.mem_append_right));exact rfl))
   |(apply zav;(iterate 5 exact rfl);intro _)|(apply zac hT;(iterate 5 exact rfl);intro _)
   |(apply zaf;(iterate 2 exact rfl))|(apply zag;(iterate 2 exact rfl))
   |(apply zal;exact rfl;all_goals intro hb;all_goals(fail_if_success (change true=true at hb));all_goals(fail_if_success (change false=false at hb));all_goals(try dsimp only at hb);all_goals(try simp only[hb]);all_goals(first|replace hb:=of_decide_eq_true hb|replace hb:=of_decide_eq_false hb|replace hb:=zap hb|replace hb:=zaq hb|replace hb:=eq_of_beq hb|replace hb:=ne_of_beq_false hb|skip);all_goals(try(exfalso;omega)))
   |(apply zao;exact rfl;all_goals intro hb;all_goals(try dsimp only at hb);all_goals(try simp only[hb]);all_goals(first|replace hb:=of_decide_eq_true hb|replace hb:=of_decide_eq_false hb|replace hb:=zap hb|replace hb:=zaq hb|replace hb:=eq_of_beq hb|replace hb:=ne_of_beq_false hb|skip);all_goals(try(exfalso;omega))))
  all_goals first
   |(exfalso;omega)
   |(apply ret1;exact rfl;exact⟨rfl,dX⟩)
   |skip
 ·have h1:=(hI who h' m0).cast (u:=.bool false) (by
   by_cases h0:0≤who
   ·rw[decide_eq_false (show ¬who<(cash.length:Int)by omega)];simp
   ·rw[decide_eq_false h0];rfl)
  rw[zfb hw]
  repeat' (first
   |apply zaA|apply zaa|apply zaz|apply zam|apply zan|apply zae|apply zay
   |(apply zaj hT;(iterate 4 exact rfl))|(apply zak;(iterate 3 exact rfl))|(apply zad;(iterate 2 exact rfl))
   |(apply zax hT;(iterate 4 exact rfl);(iterate 2 (first|omega|(dsimp only;omega))))
   |(apply zas [] [] hmix;decide+kernel)
   |(apply zaw (hs:=(h1.mono (by(intro c hc;(repeat(first|exact hc|apply List.mem_cons_of_mem|apply List.mem_append_right))))));(iterate 7 exact rfl))
   |(apply zab;(iterate 5 exact rfl);first|(apply zat hT;exact rfl;exact rfl;(repeat(first|exact List.mem_cons_self|exact m0|apply List.mem_cons_of_mem|apply List.mem_append_right));exact rfl;exact rfl)|(apply zar hT;exact rfl;exact rfl;(repeat(first|exact List.mem_cons_self|exact m0|apply List.mem_cons_of_mem|apply List.mem_append_right));exact rfl))
   |(apply zav;(iterate 5 exact rfl);intro _)|(apply zac hT;(iterate 5 exact rfl);intro _)
   |(apply zaf;(iterate 2 exact rfl))|(apply zag;(iterate 2 exact rfl))
   |(apply zal;exact rfl;all_goals intro hb;all_goals(fail_if_success (change true=true at hb));all_goals(fail_if_success (change false=false at hb));all_goals(try dsimp only at hb);all_goals(try simp only[hb]);all_goals(first|replace hb:=of_decide_eq_true hb|replace hb:=of_decide_eq_false hb|replace hb:=zap hb|replace hb:=zaq hb|replace hb:=eq_of_beq hb|replace hb:=ne_of_beq_false hb|skip);all_goals(try(exfalso;omega)))
   |(apply zao;exact rfl;all_goals intro hb;all_goals(try dsimp only at hb);all_goals(try simp only[hb]);all_goals(first|replace hb:=of_decide_eq_true hb|replace hb:=of_decide_eq_false hb|replace hb:=zap hb|replace hb:=zaq hb|replace hb:=eq_of_beq hb|replace hb:=ne_of_beq_false hb|skip);all_goals(try(exfalso;omega))))
  all_goals first
   |(exfalso;omega)
   |(apply ret1;exact rfl;exact⟨rfl,dX⟩)
   |skip
theorem zd9 (W:World)(F:List zah)(p:Nat)(AC:Option Addr)(cC:Nat)(AR:Option Addr)(cR:Nat)(cash:List Int)(rs:List PRow)(np nb:Nat)(h1np:1≤np)(hP:PsOK np nb (psOf cash rs))(t:zaG)
 (hbad:zbh (psOf cash rs) t.buyer t.bond=false∨zbh (psOf cash rs) t.seller t.bond=false∨t.buyer=t.seller∨t.price<1∨t.qty<1):
 zaI Tryz.prog W 9 [.pointer (some ⟨p,0,none⟩),.agg t.enc.toArray] (zaJ p AC cC AR cR cash rs F) (fun v h'=>v=.int .i64 1∧h'=zaJ p AC cC AR cR cash rs F):=by
 refine zaI.dropTo ?_
 have hnc:=hP.nc
 have hnp:=hP.np
 simp only[psOf,llm]at hnc hnp
 have hlc:rs.length=cash.length:=by omega
 have hI:=fun who k (m:zah.blk p 71 [.slice AR rs.length cR,.slice AC cash.length cC]∈k)=>(zcH W p (.slice AR rs.length cR) AC cC cash.length who).mono (h':=k) (zes m)
 unfold zaJ
 have h1:=hI t.buyer
 have h2:=hI t.seller
 have e1:zbh (psOf cash rs) t.buyer t.bond=true↔(0≤t.buyer∧t.buyer<cash.length)∧0≤t.bond∧t.bond<nb:=by rw[za5 hP,hnc]
 have e2:zbh (psOf cash rs) t.seller t.bond=true↔(0≤t.seller∧t.seller<cash.length)∧0≤t.bond∧t.bond<nb:=by rw[za5 hP,hnc]
 have hbad2:¬(((0≤t.buyer∧t.buyer<cash.length)∧0≤t.bond∧t.bond<nb)∧(0≤t.seller∧t.seller<cash.length)∧t.buyer≠t.seller∧1≤t.price∧1≤t.qty):=by
  rintro⟨a1,a2,a3,a4,a5⟩
  rcases hbad with h|h|h|h|h
  ·rw[e1.2 a1]at h;cases h
  ·rw[e2.2 ⟨a2,a1.2⟩]at h;cases h
  ·exact a3 h
  ·omega
  ·omega
 clear hbad e1 e2
 obtain⟨z0,hz0⟩:=zck (i:=0) hP (by omega) (by omega)
 have hz0l:=hz0.len
 have hixz:=zbJ hz0.at_
 generalize hb1:(decide (0≤t.buyer)&&decide (t.buyer<(cash.length:Int)))=b1 at*
 generalize hb2:(decide (0≤t.seller)&&decide (t.seller<(cash.length:Int)))=b2 at*
 have hb1':b1=true→0≤t.buyer∧t.buyer<cash.length:=fun h=>by rw[←hb1]at h;simpa using h
 have hb2':b2=true→0≤t.seller∧t.seller<cash.length:=fun h=>by rw[←hb2]at h;simpa using h
 generalize rs.map PRow.ck++F=G
 refine zau Tryz.func9 rfl rfl Tryz.results9 Tryz.ntmps9 rfl rfl ?_
 refine zaK (zaT (W:=W) mem2) rfl (fun hAR=> ?_)
 have hAR':=hAR (by omega)
 repeat' (first
  |apply zaA|apply zaa|apply zaz|apply zam|apply zan|apply zae|apply zay
  |(apply zaj hT;(iterate 4 exact rfl))|(apply zak;(iterate 3 exact rfl))|(apply zad;(iterate 2 exact rfl))
  |(apply zax hT;(iterate 4 exact rfl);(iterate 2 (first|omega|(dsimp only;omega))))
  |(apply zas [29] [] hmix;decide+kernel)
  |(apply zav;(iterate 5 exact rfl);intro g3)
  |(apply zaw (hs:=(h1 _ (by(repeat(first|exact List.mem_cons_self|apply List.mem_cons_of_mem|apply List.mem_append_right)))));(iterate 7 exact rfl))
  |(apply zaw (hs:=(h2 _ (by(repeat(first|exact List.mem_cons_self|apply List.mem_cons_of_mem|apply List.mem_append_right)))));(iterate 7 exact rfl))
  |(apply za4 hT;(iterate 8 exact rfl);(iterate 2 omega);exact hAR')
  |(apply zab;(iterate 5 exact rfl);exact zaY hT rfl rfl (zaT (by(repeat(first|exact List.mem_cons_self|apply List.mem_cons_of_mem|apply List.mem_append_right)))) rfl hixz)
  |(apply zab;(iterate 5 exact rfl);first|(apply zat hT;exact rfl;exact rfl;(repeat(first|exact List.mem_cons_self|apply List.mem_cons_of_mem|apply List.mem_append_right));exact rfl;exact rfl)|(apply zar hT;exact rfl;exact rfl;(repeat(first|exact List.mem_cons_self|apply List.mem_cons_of_mem|apply List.mem_append_right));exact rfl))
  |(apply zav;(iterate 5 exact rfl);intro _)|(apply zac hT;(iterate 5 exact rfl);intro _)
  |(apply zaf;(iterate 2 exact rfl))|(apply zag;(iterate 2 exact rfl))
  |(apply zal;exact rfl;all_goals intro hb;all_goals(fail_if_success (change true=true at hb));all_goals(fail_if_success (change false=false at hb));all_goals(try dsimp only at hb);all_goals(try simp only[hb]);all_goals(first|replace hb:=of_decide_eq_true hb|replace hb:=of_decide_eq_false hb|replace hb:=zap hb|replace hb:=zaq hb|replace hb:=eq_of_beq hb|replace hb:=ne_of_beq_false hb|skip);all_goals(try(exfalso;omega)))
  |(apply zao;exact rfl;all_goals intro hb;all_goals(try dsimp only at hb);all_goals(try simp only[hb]);all_goals(first|replace hb:=of_decide_eq_true hb|replace hb:=of_decide_eq_false hb|replace hb:=zap hb|replace hb:=zaq hb|replace hb:=eq_of_beq hb|replace hb:=ne_of_beq_false hb|skip);all_goals(try(exfalso;omega))))
 all_goals first
  |(apply ret1;exact rfl;exact⟨_,by(show zaL _ (_::_::_::G));exact dX,rfl,rfl⟩)
  |(exfalso;simp only[Bool.not_eq_true',Bool.not_eq_false']at *;have q1:=hb1' (by assumption);have q2:=hb2' (by assumption);apply hbad2;refine⟨⟨q1,?_,?_⟩,q2,?_,?_,?_⟩<;>omega)
  |skip
theorem zeu (W:World)(F:List zah)(p:Nat)(AC:Option Addr)(cC:Nat)(AR:Option Addr)(cR:Nat)(cash:List Int)(rs:List PRow)(np nb:Nat)(hP:PsOK np nb (psOf cash rs))(t:zaG)(hpr:inW t.price)(hqt:inW t.qty)
 (hbad:¬(zbh (psOf cash rs) t.buyer t.bond=false∨zbh (psOf cash rs) t.seller t.bond=false∨t.buyer=t.seller∨t.price<1∨t.qty<1)):
 zaI Tryz.prog W 9 [.pointer (some ⟨p,0,none⟩),.agg t.enc.toArray] (zaJ p AC cC AR cR cash rs F) (fun v h'=>v=.int .i64 (putE (psOf cash rs) t)∧∃cash' rs',psOf cash' rs'=putP (psOf cash rs) t∧h'=zaJ p AC cC AR cR cash' rs' F):=by
 refine zaI.dropTo ?_
 have hnc:=hP.nc
 have hnp:=hP.np
 simp only[psOf,llm]at hnc hnp
 have hlc:rs.length=cash.length:=by omega
 have hI:=fun who k (m:zah.blk p 71 [.slice AR rs.length cR,.slice AC cash.length cC]∈k)=>(zcH W p (.slice AR rs.length cR) AC cC cash.length who).mono (h':=k) (zes m)
 have hbad':=hbad
 simp only[not_or,Bool.not_eq_false]at hbad'
 obtain⟨hb1,hb2,hne,hp1,hq1⟩:=hbad'
 obtain⟨⟨x1,x2⟩,x3,x4⟩:=(za5 hP).1 hb1
 obtain⟨⟨y1,y2⟩,_,_⟩:=(za5 hP).1 hb2
 have h1:=fun k m=>(hI t.buyer k m).cast (u:=.bool true) (by rw[decide_eq_true x1,decide_eq_true (show t.buyer<(cash.length:Int)by omega)];rfl)
 have h2:=fun k m=>(hI t.seller k m).cast (u:=.bool true) (by rw[decide_eq_true y1,decide_eq_true (show t.seller<(cash.length:Int)by omega)];rfl)
 obtain⟨z0,hz0⟩:=zck (i:=0) hP (by omega) (by omega)
 have hz0l:=hz0.len
 have hixz:=zbJ hz0.at_
 obtain⟨a,ha⟩:=zck hP x1 x2
 obtain⟨b,hb⟩:=zck hP y1 y2
 have hal:=ha.len
 have hbl:=hb.len
 obtain⟨nB,hnB⟩:∃n,a.l[t.bond.toNat]? =some n:=⟨a.l[t.bond.toNat]'(by omega),gge (by omega)⟩
 obtain⟨nS,hnS⟩:∃n,b.l[t.bond.toNat]? =some n:=⟨b.l[t.bond.toNat]'(by omega),gge (by omega)⟩
 obtain⟨cB,hcB⟩:∃n,cash[t.buyer.toNat]? =some n:=⟨cash[t.buyer.toNat]'(by omega),gge (by omega)⟩
 obtain⟨cS,hcS⟩:∃n,cash[t.seller.toNat]? =some n:=⟨cash[t.seller.toNat]'(by omega),gge (by omega)⟩
 have wnB:=ha.wr _ (mog hnB)
 have wnS:=hb.wr _ (mog hnS)
 have wcB:=hP.wc _ (mog hcB)
 have wcS:=hP.wc _ (mog hcS)
 obtain⟨X,hX⟩:=Int.eq_ofNat_of_zero_le (show 0≤t.price by omega)
 obtain⟨Q,hQ⟩:=Int.eq_ofNat_of_zero_le (show 0≤t.qty by omega)
 unfold inW at hpr hqt
 have hTm:=ze7 W X Q (by omega) (by omega)
 rw[←hX,←hQ]at hTm
 have hXQ:X*Q<340282366920938463463374607431768211456:=by
  have:X*Q≤9223372036854775807*9223372036854775807:=Nat.mul_le_mul (by omega) (by omega)
  omega
 have hNr:=zet W (X*Q) hXQ
 have hcost:t.price*t.qty=((X*Q:Nat):Int):=by rw[hX,hQ];simp
 obtain⟨v1,f1,e1,w1,g1,k1⟩:=zb8 ((X*Q:Nat):Int)
 rw[e1]at hNr
 have hA2:=zd6 W nB t.qty wnB (by unfold inW;omega)
 obtain⟨v2,f2,e2,w2,g2,k2⟩:=zb8 (nB+t.qty)
 rw[e2]at hA2
 have hA3:=zd7 W nS t.qty wnS (by unfold inW;omega)
 obtain⟨v3,f3,e3,w3,g3',k3⟩:=zb8 (nS - t.qty)
 rw[e3]at hA3
 have hA4:=zd7 W cB v1 wcB w1
 obtain⟨v4,f4,e4,w4,g4',k4⟩:=zb8 (cB - v1)
 rw[e4]at hA4
 have hA5:=zd6 W cS v1 wcS w1
 obtain⟨v5,f5,e5,w5,g5',k5⟩:=zb8 (cS+v1)
 rw[e5]at hA5
 have hE:putE (psOf cash rs) t=if f1&&f2&&f3&&f4&&f5 then 0 else 15:=by
  unfold putE
  rw[if_neg hbad,zbm x1 ha.at_ x3 hnB,zbm y1 hb.at_ x3 hnS,zbk x1 hcB,zbk y1 hcS,hcost,g1,g2,g3']
  cases f1
  ·simp
  ·rw[←k1 rfl,g4',g5']
 have hEok:(f1&&f2&&f3&&f4&&f5)=true→(putP (psOf cash rs) t)=⟨(cash.set t.buyer.toNat v4).set t.seller.toNat v5,setRow (setRow (rs.map PRow.l) t.buyer t.bond v2) t.seller t.bond v3⟩:=fun hf=>by
  rw[hf,if_pos rfl]at hE
  simp only[Bool.and_eq_true]at hf
  obtain⟨⟨⟨⟨z1,z2⟩,z3⟩,z4⟩,z5⟩:=hf
  unfold putP
  rw[if_pos hE,zbm x1 ha.at_ x3 hnB,zbm y1 hb.at_ x3 hnS,zbk x1 hcB,zbk y1 hcS,hcost,k2 z2,k3 z3,k4 z4,k5 z5,k1 z1]
  rfl
 rw[hE]
 obtain⟨R,hR⟩:=zcU (l:=rs) (i:=t.buyer.toNat) (j:=t.seller.toNat) (by omega) (by omega) (by omega)
 have hR0:=hR a b
 rw[zbx ha.at_,zbx hb.at_]at hR0
 have hpull:(zaJ p AC cC AR cR cash rs F).Perm (.blk p 71 [.slice AR rs.length cR,.slice AC cash.length cC]::.own AC cash.length cC 2 1 (cash.map (Value.int .i64))::.own AR rs.length cR 66 1 (rs.map PRow.hd)
  ::.own a.A a.l.length a.c 2 1 (a.l.map (Value.int .i64))::.own b.A b.l.length b.c 2 1 (b.l.map (Value.int .i64))::(R.map PRow.ck++F)):=by
  unfold zaJ
  refine((List.Perm.append_right F (hR0.map PRow.ck)).cons _ |>.cons _ |>.cons _)
 have hixa:=zbJ ha.at_
 have hixb:=zbJ hb.at_
 have hiB:=zcW (kd:=.i64) hnB
 have hiS:=zcW (kd:=.i64) hnS
 have hjB:=zcW (kd:=.i64) hcB
 have hjS:=zcW (kd:=.i64) hcS
 generalize hG:R.map PRow.ck++F=G at hpull
 have hEno:(f1&&f2&&f3&&f4&&f5)=false→putP (psOf cash rs) t=psOf cash rs:=fun hf=>by
  rw[hf]at hE
  unfold putP
  rw[if_neg (by rw[hE];decide)]
 have hdrop:∀k,zaL k (.blk p 71 [.slice AR rs.length cR,.slice AC cash.length cC]::.own AC cash.length cC 2 1 (cash.map (Value.int .i64))::.own AR rs.length cR 66 1 (rs.map PRow.hd)
  ::.own a.A a.l.length a.c 2 1 (a.l.map (Value.int .i64))::.own b.A b.l.length b.c 2 1 (b.l.map (Value.int .i64))::G)→zaL k (zaJ p AC cC AR cR cash rs F):=fun k hk=>zbb hk (zdE hpull.symm)
 have hfin:∀k,zaL k (.blk p 71 [.slice AR rs.length cR,.slice AC cash.length cC]::.own AC cash.length cC 2 1 (lay (lay (cash.map (Value.int .i64)) (t.buyer.toNat*1) (Value.cells (.int .i64 v4)).toList) (t.seller.toNat*1) (Value.cells (.int .i64 v5)).toList)::.own AR rs.length cR 66 1 (rs.map PRow.hd)
  ::.own a.A a.l.length a.c 2 1 (lay (a.l.map (Value.int .i64)) (t.bond.toNat*1) (Value.cells (.int .i64 v2)).toList)::.own b.A b.l.length b.c 2 1 (lay (b.l.map (Value.int .i64)) (t.bond.toNat*1) (Value.cells (.int .i64 v3)).toList)::G)
  →zaL k (zaJ p AC cC AR cR ((cash.set t.buyer.toNat v4).set t.seller.toNat v5) ((rs.set t.buyer.toNat ⟨a.A,a.c,a.l.set t.bond.toNat v2⟩).set t.seller.toNat ⟨b.A,b.c,b.l.set t.bond.toNat v3⟩) F):=fun k hk=>by
  refine zbb hk (zdE ?_)
  rw[zbT (by omega),zbT (by simp only[List.length_set];omega),zbT (by omega),zbT (by omega)]
  unfold zaJ
  have e4:((rs.set t.buyer.toNat ⟨a.A,a.c,a.l.set t.bond.toNat v2⟩).set t.seller.toNat ⟨b.A,b.c,b.l.set t.bond.toNat v3⟩).map PRow.hd=rs.map PRow.hd:=by
   rw[List.map_set,List.map_set]
   have f1:PRow.hd ⟨a.A,a.c,a.l.set t.bond.toNat v2⟩=PRow.hd a:=by unfold PRow.hd;simp only[List.length_set]
   have f2:PRow.hd ⟨b.A,b.c,b.l.set t.bond.toNat v3⟩=PRow.hd b:=by unfold PRow.hd;simp only[List.length_set]
   rw[f1,f2,zbx (l:=rs.map PRow.hd) (i:=t.buyer.toNat) (a:=PRow.hd a) (by rw[List.getElem?_map,ha.at_];rfl),zbx (l:=rs.map PRow.hd) (i:=t.seller.toNat) (a:=PRow.hd b) (by rw[List.getElem?_map,hb.at_];rfl)]
  rw[e4]
  simp only[List.length_set]
  refine List.Perm.cons _ (List.Perm.cons _ (List.Perm.cons _ ?_))
  have e5:=((hR ⟨a.A,a.c,a.l.set t.bond.toNat v2⟩ ⟨b.A,b.c,b.l.set t.bond.toNat v3⟩).map PRow.ck).append_right F
  have f3:PRow.ck ⟨a.A,a.c,a.l.set t.bond.toNat v2⟩=.own a.A a.l.length a.c 2 1 ((a.l.set t.bond.toNat v2).map (Value.int .i64)):=by unfold PRow.ck;simp only[List.length_set]
  have f4:PRow.ck ⟨b.A,b.c,b.l.set t.bond.toNat v3⟩=.own b.A b.l.length b.c 2 1 ((b.l.set t.bond.toNat v3).map (Value.int .i64)):=by unfold PRow.ck;simp only[List.length_set]
  rw[List.map_cons,List.map_cons,f3,f4]at e5
  rw[←hG]
  exact e5.symm
 have hpsok:(f1&&f2&&f3&&f4&&f5)=true→psOf ((cash.set t.buyer.toNat v4).set t.seller.toNat v5) ((rs.set t.buyer.toNat ⟨a.A,a.c,a.l.set t.bond.toNat v2⟩).set t.seller.toNat ⟨b.A,b.c,b.l.set t.bond.toNat v3⟩)=putP (psOf cash rs) t:=fun hf=>by
  rw[hEok hf]
  unfold psOf
  congr 1
  rw[List.map_set,List.map_set]
  have q1:at0 (rs.map PRow.l) t.buyer=some a.l:=by unfold at0;rw[if_neg (by omega),List.getElem?_map,ha.at_];rfl
  rw[zcl q1]
  have q2:at0 ((rs.map PRow.l).set t.buyer.toNat (a.l.set t.bond.toNat v2)) t.seller=some b.l:=by
   unfold at0
   rw[if_neg (by omega),List.getElem?_set_ne (by omega),List.getElem?_map,hb.at_];rfl
  rw[zcl q2]
 generalize putP (psOf cash rs) t=PP at*
 refine zau Tryz.func9 rfl rfl Tryz.results9 Tryz.ntmps9 rfl rfl ?_
 refine zfr hpull ?_
 refine zaK (zaT (W:=W) mem2) rfl (fun hAR=> ?_)
 have hAR':=hAR (by omega)
 refine zaK (zaE.ints (W:=W) mem1 rfl) rfl (fun hAC=> ?_)
 have hAC':=hAC (by omega)
 refine zaK (zaE.ints (W:=W) mem3 rfl) rfl (fun hAa=> ?_)
 have hAa':=hAa (by omega)
 refine zaK (zaE.ints (W:=W) mem4 rfl) rfl (fun hAb=> ?_)
 have hAb':=hAb (by omega)
 repeat' (first
  |apply zaA|apply zaa|apply zaz|apply zam|apply zan|apply zae|apply zay
  |(apply zaj hT;(iterate 4 exact rfl))|(apply zak;(iterate 3 exact rfl))|(apply zad;(iterate 2 exact rfl))
  |(apply zax hT;(iterate 4 exact rfl);(iterate 2 (first|omega|(dsimp only;omega))))
  |(apply zas [32,33,29] [] hmix;decide+kernel)
  |(apply zge [.blk g3 30 t.enc,.blk p 71 [.slice AR rs.length cR,.slice AC cash.length cC],.own AR rs.length cR 66 1 (rs.map PRow.hd)] (.step 0 <| .step 1 <| .step 2 <| .step 3 <| .step 4 <| .step 5 <| .step 6 <| .step 7 <| .step 8 <| .step 9 <| .step 10 <| .step 11 <| .step 12 <| .step 13 <| .step 14 <| .step 15 <| .step 16 <| .step 17 <| .step 18 <| .step 19 <| .step 20 <| .step 21 <| .step 22 <| .step 23 <| .step 24 <| .step 25 <| .step 26 <| .step 27 <| .step 28 <| .step 29 <| .step 30 <| .step 31 <| .step 32 <| .step 33 <| .step 34 <| .step 35 <| .step 36 <| .step 37 <| .step 38 <| .step 39 <| .step 40 <| .step 41 <| .step 42 <| .step 43 <| .nil) hmix;decide+kernel)
  |apply zb5
  |apply zb6
  |(apply zbA;exact rfl)
  |(apply zav;(iterate 5 exact rfl);intro g3)
  |(apply zaw (hs:=(h1 _ mX));(iterate 7 exact rfl))
  |(apply zaw (hs:=(h2 _ mX));(iterate 7 exact rfl))
  |(apply zaw (hs:=(hTm.mono (by simp)));(iterate 7 exact rfl))
  |(apply zaw (hs:=(hNr.mono (by simp)));(iterate 7 exact rfl))
  |(apply zaw (hs:=(hA2.mono (by simp)));(iterate 7 exact rfl))
  |(apply zaw (hs:=(hA3.mono (by simp)));(iterate 7 exact rfl))
  |(apply zaw (hs:=(hA4.mono (by simp)));(iterate 7 exact rfl))
  |(apply zaw (hs:=(hA5.mono (by simp)));(iterate 7 exact rfl))
  |(apply zaQ hT;(iterate 6 exact rfl);exact sX;(iterate 3 exact rfl);exact Nat.le_of_ble_eq_true rfl)
  |(apply za4 hT;(iterate 8 exact rfl);(iterate 2 omega);first|exact hAR'|exact hAC'|exact hAa'|exact hAb')
  |(apply zab;(iterate 5 exact rfl);first|exact zaY hT rfl rfl (zaT mX) rfl hixa|exact zaY hT rfl rfl (zaT mX) rfl hixz|exact zaY hT rfl rfl (zaT mX) rfl hixb|exact zaY hT rfl rfl (zaE.ints mX rfl) rfl hiB|exact zaY hT rfl rfl (zaE.ints mX rfl) rfl hiS|exact zaY hT rfl rfl (zaE.ints mX rfl) rfl hjB|exact zaY hT rfl rfl (zaE.ints mX rfl) rfl hjS|(apply zat hT;exact rfl;exact rfl;exact mX;exact rfl;exact rfl))
  |(apply zf3;(iterate 5 exact rfl);exact ze9 mX mX mX;first|exact zaY hT rfl rfl (zaT mX) rfl hixa|exact zaY hT rfl rfl (zaT mX) rfl hixz|exact zaY hT rfl rfl (zaT mX) rfl hixb|exact zaY hT rfl rfl (zaE.ints mX rfl) rfl hiB|exact zaY hT rfl rfl (zaE.ints mX rfl) rfl hiS|exact zaY hT rfl rfl (zaE.ints mX rfl) rfl hjB|exact zaY hT rfl rfl (zaE.ints mX rfl) rfl hjS|(apply zat hT;exact rfl;exact rfl;exact mX;exact rfl;exact rfl))
  |(apply zby (A:=a.A) hT;(iterate 6 exact rfl);exact sX;exact rfl;exact rfl;exact rfl;(show t.bond.toNat*1+1≤a.l.length*1;omega);omega;exact ze9 mX mX mX)
  |(apply zby (A:=b.A) hT;(iterate 6 exact rfl);exact sX;exact rfl;exact rfl;exact rfl;(show t.bond.toNat*1+1≤b.l.length*1;omega);omega;exact ze9 mX mX mX)
  |(apply zby (A:=AC) hT;(iterate 6 exact rfl);exact sX;exact rfl;exact rfl;exact rfl;(show t.buyer.toNat*1+1≤cash.length*1;omega);omega;exact ze9 mX mX mX)
  |(apply zby (A:=AC) hT;(iterate 6 exact rfl);exact sX;exact rfl;exact rfl;exact rfl;(show t.seller.toNat*1+1≤cash.length*1;omega);omega;exact ze9 mX mX mX)
  |(apply zab;(iterate 5 exact rfl);first|(apply zat hT;exact rfl;exact rfl;(repeat(first|exact List.mem_cons_self|apply List.mem_cons_of_mem|apply List.mem_append_right));exact rfl;exact rfl)|(apply zar hT;exact rfl;exact rfl;(repeat(first|exact List.mem_cons_self|apply List.mem_cons_of_mem|apply List.mem_append_right));exact rfl))
  |(apply zav;(iterate 5 exact rfl);intro _)|(apply zac hT;(iterate 5 exact rfl);intro _)
  |(apply zaf;(iterate 2 exact rfl))|(apply zag;(iterate 2 exact rfl))
  |(apply zal;exact rfl;all_goals intro hb;all_goals(fail_if_success (change true=true at hb));all_goals(fail_if_success (change false=false at hb));all_goals(try dsimp only at hb);all_goals(try simp only[hb]);all_goals(first|replace hb:=of_decide_eq_true hb|replace hb:=of_decide_eq_false hb|replace hb:=zap hb|replace hb:=zaq hb|replace hb:=eq_of_beq hb|replace hb:=ne_of_beq_false hb|skip);all_goals(try(exfalso;omega)))
  |(apply zao;exact rfl;all_goals intro hb;all_goals(try dsimp only at hb);all_goals(try simp only[hb]);all_goals(first|replace hb:=of_decide_eq_true hb|replace hb:=of_decide_eq_false hb|replace hb:=zap hb|replace hb:=zaq hb|replace hb:=eq_of_beq hb|replace hb:=ne_of_beq_false hb|skip);all_goals(try(exfalso;omega))))
 all_goals first
  |(exfalso;omega)
  |((have flag0:(f1&&f2&&f3&&f4&&f5)=false:=by(clear hdrop hfin hpsok hEok hEno hE hI h1 h2 hpull;simp only[Bool.not_eq_true',Bool.not_eq_false']at *;simp[*]));apply ret1;exact rfl;exact⟨_,hdrop _ dX,by rw[flag0];rfl,cash,rs,(hEno flag0).symm,rfl⟩)
  |((have flag1:(f1&&f2&&f3&&f4&&f5)=true:=by(clear hdrop hfin hpsok hEok hEno hE hI h1 h2 hpull;simp only[Bool.not_eq_true',Bool.not_eq_false']at *;simp[*]));apply ret1;exact rfl;exact⟨_,hfin _ dX,by rw[flag1];rfl,_,_,hpsok flag1,rfl⟩)
  |skip
end Go.Proofs.YteocfhdocpeokaaGreat
set_option linter.unusedSimpArgs false
set_option linter.unusedVariables false
namespace Go.Proofs.YteocfhdocpeokaaGreat
open Go Go.Sl
attribute [local irreducible] AW ES Ld RetQ
set_option maxRecDepth 100000
theorem zdb (W:World)(h:List zah)(A:Option Addr)(n c:Nat)(l:List za1)(hn:l.length=n)(hr:zaE W h A n 7 (l.flatMap za1.enc))(fn:FuncId)(cap:List Value)(p:za1→Bool)
 (hf:∀x∈l,zaC Tryz.prog W fn ([.agg x.enc.toArray]++cap) h (.bool (p x)))(hb:n≤4611686018427387903):
 zaC Tryz.prog W 132 [.slice A n c,.func (.func fn) #[] cap.toArray] h (.int .i64 (zbf p l)):=by
 refine zaC.of (fun h' hs=> ?_)
 have hr':=hr.mono hs
 refine zau Tryz.func132 rfl rfl Tryz.results132 Tryz.ntmps132 rfl rfl ?_
 refine zaK hr' rfl (fun hA=> ?_)
 repeat' (first
  |apply zaA|apply zaa|apply zaz|apply zam|apply zan|apply zae|apply zay
  |(apply zaj hT;(iterate 4 exact rfl))|(apply zak;(iterate 3 exact rfl))|(apply zad;(iterate 2 exact rfl))
  |(apply zax hT;(iterate 4 exact rfl);(iterate 2 (first|omega|(dsimp only;omega))))
  |(apply zas [] [] hmix;decide+kernel)
  |(apply zab;(iterate 5 exact rfl);first|(apply zat hT;exact rfl;exact rfl;(repeat(first|exact List.mem_cons_self|apply List.mem_cons_of_mem));exact rfl;exact rfl)|(apply zar hT;exact rfl;exact rfl;(repeat(first|exact List.mem_cons_self|apply List.mem_cons_of_mem));exact rfl))
  |(apply zav;(iterate 5 exact rfl);intro _)|(apply zac hT;(iterate 5 exact rfl);intro _)
  |(apply zaf;(iterate 2 exact rfl))|(apply zag;(iterate 2 exact rfl))
  |(apply zal;exact rfl;all_goals intro hb;all_goals(fail_if_success (change true=true at hb));all_goals(fail_if_success (change false=false at hb));all_goals(try dsimp only at hb);all_goals(try simp only[hb]);all_goals(first|replace hb:=of_decide_eq_true hb|replace hb:=of_decide_eq_false hb|replace hb:=zap hb|replace hb:=zaq hb|replace hb:=eq_of_beq hb|replace hb:=ne_of_beq_false hb|skip);all_goals(try(exfalso;omega)))
  |(apply zao;exact rfl;all_goals intro hb;all_goals(try dsimp only at hb);all_goals(try simp only[hb]);all_goals(first|replace hb:=of_decide_eq_true hb|replace hb:=of_decide_eq_false hb|replace hb:=zap hb|replace hb:=zaq hb|replace hb:=eq_of_beq hb|replace hb:=ne_of_beq_false hb|skip);all_goals(try(exfalso;omega))))
 refine zcc (α:=Nat) (E:=fun k=>[(0,.slice A n c),(1,.func (.func fn) #[] cap.toArray),(7,.int .i64 n),(8,.int .i64 k)]) (H:=fun _=>h') (μ:=fun k=>n - k)
  (S:=fun k=>k≤n∧∀(j:Nat) y,j<k→l[j]? =some y→p y=false) 0 (J:=[]) ⟨Nat.zero_le _,fun j y hj=>by omega⟩ ⟨rfl,rfl,rfl,rfl,trivial⟩ (plr _) ?_
 rintro k ⟨hk1,hk2⟩
 by_cases hlt:k<n
 ·obtain⟨x,hx⟩:∃x,l[k]? =some x:=⟨l[k]'(by omega),gge (by omega)⟩
  have hx2:l[(k:Int).toNat]? =some x:=by simpa using hx
  have hfx:=(hf x (mog hx)).mono hs
  have hA':=hA (by omega)
  repeat' (first
   |apply zaA|apply zaa|apply zaz|apply zam|apply zan|apply zae|apply zay
   |(apply zaj hT;(iterate 4 exact rfl))|(apply zak;(iterate 3 exact rfl))|(apply zad;(iterate 2 exact rfl))
   |(apply zax hT;(iterate 4 exact rfl);(iterate 2 (first|omega|(dsimp only;omega))))
   |(apply zas [] [] hmix;decide+kernel)
   |(apply za4 hT;(iterate 8 exact rfl);(iterate 2 omega);exact hA')
   |(apply zab;(iterate 5 exact rfl);exact zbd hT rfl rfl hr' za1.enc_len rfl hx2 rfl)
   |(apply zaw (hs:=hfx);(iterate 7 exact rfl))
   |(apply zab;(iterate 5 exact rfl);first|(apply zat hT;exact rfl;exact rfl;(repeat(first|exact List.mem_cons_self|apply List.mem_cons_of_mem));exact rfl;exact rfl)|(apply zar hT;exact rfl;exact rfl;(repeat(first|exact List.mem_cons_self|apply List.mem_cons_of_mem));exact rfl))
   |(apply zav;(iterate 5 exact rfl);intro _)|(apply zac hT;(iterate 5 exact rfl);intro _)
   |(apply zaf;(iterate 2 exact rfl))|(apply zag;(iterate 2 exact rfl))
   |(apply zal;exact rfl;all_goals intro hb;all_goals(fail_if_success (change true=true at hb));all_goals(fail_if_success (change false=false at hb));all_goals(try dsimp only at hb);all_goals(try simp only[hb]);all_goals(first|replace hb:=of_decide_eq_true hb|replace hb:=of_decide_eq_false hb|replace hb:=zap hb|replace hb:=zaq hb|replace hb:=eq_of_beq hb|replace hb:=ne_of_beq_false hb|skip);all_goals(try(exfalso;omega)))
   |(apply zao;exact rfl;all_goals intro hb;all_goals(try dsimp only at hb);all_goals(try simp only[hb]);all_goals(first|replace hb:=of_decide_eq_true hb|replace hb:=of_decide_eq_false hb|replace hb:=zap hb|replace hb:=zaq hb|replace hb:=eq_of_beq hb|replace hb:=ne_of_beq_false hb|skip);all_goals(try(exfalso;omega))))
  ·exact zdD (J:=[]) rfl (by rw[zcF hx hb hk2]) (plr _)
  ·have hpx:=hb
   refine⟨k+1,[],by dsimp only;omega,⟨by omega,fun j y hj hy=> ?_⟩,⟨rfl,rfl,rfl,rfl,trivial⟩,plr _⟩
   by_cases hjk:j<k
   ·exact hk2 j y hjk hy
   ·obtain rfl:j=k:=by omega
    rw[hx]at hy;cases hy;exact hpx
 ·repeat' (first
   |apply zaA|apply zaa|apply zaz|apply zam|apply zan|apply zae|apply zay
   |(apply zaj hT;(iterate 4 exact rfl))|(apply zak;(iterate 3 exact rfl))|(apply zad;(iterate 2 exact rfl))
   |(apply zax hT;(iterate 4 exact rfl);(iterate 2 (first|omega|(dsimp only;omega))))
   |(apply zas [] [] hmix;decide+kernel)
   |(apply zab;(iterate 5 exact rfl);first|(apply zat hT;exact rfl;exact rfl;(repeat(first|exact List.mem_cons_self|apply List.mem_cons_of_mem));exact rfl;exact rfl)|(apply zar hT;exact rfl;exact rfl;(repeat(first|exact List.mem_cons_self|apply List.mem_cons_of_mem));exact rfl))
   |(apply zav;(iterate 5 exact rfl);intro _)|(apply zac hT;(iterate 5 exact rfl);intro _)
   |(apply zaf;(iterate 2 exact rfl))|(apply zag;(iterate 2 exact rfl))
   |(apply zal;exact rfl;all_goals intro hb;all_goals(fail_if_success (change true=true at hb));all_goals(fail_if_success (change false=false at hb));all_goals(try dsimp only at hb);all_goals(try simp only[hb]);all_goals(first|replace hb:=of_decide_eq_true hb|replace hb:=of_decide_eq_false hb|replace hb:=zap hb|replace hb:=zaq hb|replace hb:=eq_of_beq hb|replace hb:=ne_of_beq_false hb|skip);all_goals(try(exfalso;omega)))
   |(apply zao;exact rfl;all_goals intro hb;all_goals(try dsimp only at hb);all_goals(try simp only[hb]);all_goals(first|replace hb:=of_decide_eq_true hb|replace hb:=of_decide_eq_false hb|replace hb:=zap hb|replace hb:=zaq hb|replace hb:=eq_of_beq hb|replace hb:=ne_of_beq_false hb|skip);all_goals(try(exfalso;omega))))
  exact zdD (J:=[]) rfl (by rw[zbE (fun(j:Nat) y hj=>hk2 j y (by have:=(gsi.1 hj).1;omega) hj)]) (plr _)
theorem zcv (W:World)(h:List zah)(A:Option Addr)(n c:Nat)(l:List za1)(hn:l.length=n)(hr:zaE W h A n 7 (l.flatMap za1.enc))(fn:FuncId)(cap:List Value)(p:za1→Bool)
 (hf:∀x∈l,zaC Tryz.prog W fn ([.agg x.enc.toArray]++cap) h (.bool (p x)))(hb:n≤4611686018427387903):
 zaC Tryz.prog W 94 [.slice A n c,.func (.func fn) #[] cap.toArray] h (.bool (decide (zbf p l≥0))):=by
 refine zaC.of (fun h' hs=> ?_)
 refine zau Tryz.func94 rfl rfl Tryz.results94 Tryz.ntmps94 rfl rfl ?_
 repeat' (first
  |apply zaA|apply zaa|apply zaz|apply zam|apply zan|apply zae|apply zay
  |(apply zaj hT;(iterate 4 exact rfl))|(apply zak;(iterate 3 exact rfl))|(apply zad;(iterate 2 exact rfl))
  |(apply zax hT;(iterate 4 exact rfl);(iterate 2 (first|omega|(dsimp only;omega))))
  |(apply zas [] [] hmix;decide+kernel)
  |(apply zaw (hs:=((zdb W h A n c l hn hr fn cap p hf hb).mono hs));(iterate 7 exact rfl))
  |(apply zab;(iterate 5 exact rfl);first|(apply zat hT;exact rfl;exact rfl;(repeat(first|exact List.mem_cons_self|apply List.mem_cons_of_mem));exact rfl;exact rfl)|(apply zar hT;exact rfl;exact rfl;(repeat(first|exact List.mem_cons_self|apply List.mem_cons_of_mem));exact rfl))
  |(apply zav;(iterate 5 exact rfl);intro _)|(apply zac hT;(iterate 5 exact rfl);intro _)
  |(apply zaf;(iterate 2 exact rfl))|(apply zag;(iterate 2 exact rfl))
  |(apply zal;exact rfl;all_goals intro hb;all_goals(fail_if_success (change true=true at hb));all_goals(fail_if_success (change false=false at hb));all_goals(try dsimp only at hb);all_goals(try simp only[hb]);all_goals(first|replace hb:=of_decide_eq_true hb|replace hb:=of_decide_eq_false hb|replace hb:=zap hb|replace hb:=zaq hb|replace hb:=eq_of_beq hb|replace hb:=ne_of_beq_false hb|skip);all_goals(try(exfalso;omega)))
  |(apply zao;exact rfl;all_goals intro hb;all_goals(try dsimp only at hb);all_goals(try simp only[hb]);all_goals(first|replace hb:=of_decide_eq_true hb|replace hb:=of_decide_eq_false hb|replace hb:=zap hb|replace hb:=zaq hb|replace hb:=eq_of_beq hb|replace hb:=ne_of_beq_false hb|skip);all_goals(try(exfalso;omega))))
 exact zdD (J:=[]) rfl rfl (plr _)
theorem zfc (W:World)(h:List zah)(A:Option Addr)(n c:Nat)(cs:List Value)(hr:zaE W h A n 7 cs)(hb:n*56≤140737488355328):
 zaI Tryz.prog W 46 [.slice A n c] h (fun v h'=>∃A' c',v=.slice A' n c'∧h'=.own A' n c' 95 7 cs::h):=by
 refine zaI.drop ?_
 refine zau Tryz.func46 rfl rfl Tryz.results46 Tryz.ntmps46 rfl rfl ?_
 refine zaK hr rfl (fun hA=> ?_)
 cases A with
 |none=>
  have hn:n=0:=by
   rcases Nat.eq_zero_or_pos n with h|h
   ·exact h
   ·have:=hA h;simp at this
  subst hn
  have hcs:cs=[]:=List.eq_nil_of_length_eq_zero (by simpa using hr.len)
  subst hcs
  refine zbB (fun w hw=>⟨_,hw.own_nil 95 7,?_⟩)
  repeat' (first
   |apply zaA|apply zaa|apply zaz|apply zam|apply zan|apply zae|apply zay
   |(apply zaj hT;(iterate 4 exact rfl))|(apply zak;(iterate 3 exact rfl))|(apply zad;(iterate 2 exact rfl))
   |(apply zax hT;(iterate 4 exact rfl);(iterate 2 (first|omega|(dsimp only;omega))))
   |(apply zas [] [] hmix;decide+kernel)
   |(apply zab;(iterate 5 exact rfl);first|(apply zat hT;exact rfl;exact rfl;(repeat(first|exact List.mem_cons_self|apply List.mem_cons_of_mem));exact rfl;exact rfl)|(apply zar hT;exact rfl;exact rfl;(repeat(first|exact List.mem_cons_self|apply List.mem_cons_of_mem));exact rfl))
   |(apply zav;(iterate 5 exact rfl);intro _)|(apply zac hT;(iterate 5 exact rfl);intro _)
   |(apply zaf;(iterate 2 exact rfl))|(apply zag;(iterate 2 exact rfl))
   |(apply zal;exact rfl;all_goals intro hb;all_goals(fail_if_success (change true=true at hb));all_goals(fail_if_success (change false=false at hb));all_goals(try dsimp only at hb);all_goals(try simp only[hb]);all_goals(first|replace hb:=of_decide_eq_true hb|replace hb:=of_decide_eq_false hb|replace hb:=zap hb|replace hb:=zaq hb|replace hb:=eq_of_beq hb|replace hb:=ne_of_beq_false hb|skip);all_goals(try(exfalso;omega)))
   |(apply zao;exact rfl;all_goals intro hb;all_goals(try dsimp only at hb);all_goals(try simp only[hb]);all_goals(first|replace hb:=of_decide_eq_true hb|replace hb:=of_decide_eq_false hb|replace hb:=zap hb|replace hb:=zaq hb|replace hb:=eq_of_beq hb|replace hb:=ne_of_beq_false hb|skip);all_goals(try(exfalso;omega))))
  apply ret1;exact rfl
  exact⟨[],_,plr _,none,0,rfl,rfl⟩
 |some ad=>
  repeat' (first
   |apply zaA|apply zaa|apply zaz|apply zam|apply zan|apply zae|apply zay
   |(apply zaj hT;(iterate 4 exact rfl))|(apply zak;(iterate 3 exact rfl))|(apply zad;(iterate 2 exact rfl))
   |(apply zax hT;(iterate 4 exact rfl);(iterate 2 (first|omega|(dsimp only;omega))))
   |(apply zas [] [] hmix;decide+kernel)
   |(apply zaP hT;(iterate 12 exact rfl);intro g1)
   |(apply zbe hT;(iterate 10 exact rfl);exact sel0;exact hr.cons;omega;(show(0+n)*56≤_;omega);intro A' c')
   |(apply zab;(iterate 5 exact rfl);first|(apply zat hT;exact rfl;exact rfl;(repeat(first|exact List.mem_cons_self|apply List.mem_cons_of_mem));exact rfl;exact rfl)|(apply zar hT;exact rfl;exact rfl;(repeat(first|exact List.mem_cons_self|apply List.mem_cons_of_mem));exact rfl))
   |(apply zav;(iterate 5 exact rfl);intro _)|(apply zac hT;(iterate 5 exact rfl);intro _)
   |(apply zaf;(iterate 2 exact rfl))|(apply zag;(iterate 2 exact rfl))
   |(apply zal;exact rfl;all_goals intro hb;all_goals(fail_if_success (change true=true at hb));all_goals(fail_if_success (change false=false at hb));all_goals(try dsimp only at hb);all_goals(try simp only[hb]);all_goals(first|replace hb:=of_decide_eq_true hb|replace hb:=of_decide_eq_false hb|replace hb:=zap hb|replace hb:=zaq hb|replace hb:=eq_of_beq hb|replace hb:=ne_of_beq_false hb|skip);all_goals(try(exfalso;omega)))
   |(apply zao;exact rfl;all_goals intro hb;all_goals(try dsimp only at hb);all_goals(try simp only[hb]);all_goals(first|replace hb:=of_decide_eq_true hb|replace hb:=of_decide_eq_false hb|replace hb:=zap hb|replace hb:=zaq hb|replace hb:=eq_of_beq hb|replace hb:=ne_of_beq_false hb|skip);all_goals(try(exfalso;omega))))
  apply ret1;exact rfl
  refine⟨[],_,plr _,A',c',by rw[Nat.zero_add],?_⟩
  show zah.own A' (0+n) c' 95 7 ([]++cs)::h=_
  simp
end Go.Proofs.YteocfhdocpeokaaGreat
