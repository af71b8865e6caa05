/- The statements' walks, and what they stand on, joined into few texts: part 2. Conditions stand in each statement. -/
import Derived.Test.YteocfhdocpeokaaGreatBndT1
set_option maxHeartbeats 16000000
set_option linter.all false
set_option linter.unusedSimpArgs false
set_option linter.unusedVariables false
namespace Go.Proofs.YteocfhdocpeokaaGreat
open Go Go.Sl
attribute [local irreducible] AW ES EP Ld RetQ
set_option maxRecDepth 100000
structure PRow where
 A:Option Addr
 c:Nat
 l:List Int
def PRow.ck (r:PRow):zah:=.own r.A r.l.length r.c 2 1 (r.l.map (Value.int .i64))
def PRow.hd (r:PRow):Value:=.slice r.A r.l.length r.c
def zaZ (p:Nat)(AC:Option Addr)(cC:Nat)(AR:Option Addr)(cR:Nat)(cash:List Int)(rs:List PRow)(F:List zah):List zah:=
 .blk p 69 [.slice AR rs.length cR,.slice AC cash.length cC]::.own AC cash.length cC 2 1 (cash.map (Value.int .i64))::.own AR rs.length cR 66 1 (rs.map PRow.hd)::(rs.map PRow.ck++F)
def zdd (np nb:Int):Bool:=decide (1≤np)&&decide (np≤8)&&(decide (1≤nb)&&decide (nb≤4))
theorem ziQ (W:World)(h:List zah)(np nb:Int):zaL Tryz.prog W 6 [.int .i64 np,.int .i64 nb] h
 (fun v h'=>(zdd np nb=false∧v=.pointer none∧h'=h)∨(zdd np nb=true∧∃p AC cC AR cR rs,v=.pointer (some ⟨p,0,none⟩)∧h'=zaZ p AC cC AR cR (List.replicate np.toNat 0) rs h∧rs.map PRow.l=List.replicate np.toNat (List.replicate nb.toNat 0))):=by
 refine zaL.dropTo ?_
 refine zaA Tryz.func6 rfl rfl Tryz.results6 Tryz.ntmps6 rfl rfl ?_
 by_cases hin:(1≤np∧np≤8)∧(1≤nb∧nb≤4)
 rotate_left
 ·repeat' (first
   |apply zaz|apply zaa|apply zay|apply zal|apply zam|apply zae|apply zaw
   |(apply zai hT;(iterate 4 exact rfl))|(apply zaj;(iterate 3 exact rfl))|(apply zad;(iterate 2 exact rfl))
   |(apply zax hT;(iterate 4 exact rfl);(iterate 2 (first|omega|(dsimp only;omega))))
   |(apply zar [] [] hmix;decide+kernel)
   |(apply zab;(iterate 5 exact rfl);first|(apply zas hT;exact rfl;exact rfl;(repeat(first|exact List.mem_cons_self|apply List.mem_cons_of_mem));exact rfl;exact rfl)|(apply zaq hT;exact rfl;exact rfl;(repeat(first|exact List.mem_cons_self|apply List.mem_cons_of_mem));exact rfl))
   |(apply zau;(iterate 5 exact rfl);intro _)|(apply zac hT;(iterate 5 exact rfl);intro _)
   |(apply zaf;(iterate 2 exact rfl))|(apply zag;(iterate 2 exact rfl))
   |(apply zak;exact rfl;all_goals intro hb;all_goals(fail_if_success (change true=true at hb));all_goals(fail_if_success (change false=false at hb));all_goals(try dsimp only at hb);all_goals(try simp only[hb]);all_goals(first|replace hb:=of_decide_eq_true hb|replace hb:=of_decide_eq_false hb|replace hb:=zao hb|replace hb:=zap hb|replace hb:=eq_of_beq hb|replace hb:=ne_of_beq_false hb|skip);all_goals(try(exfalso;omega)))
   |(apply zan;exact rfl;all_goals intro hb;all_goals(try dsimp only at hb);all_goals(try simp only[hb]);all_goals(first|replace hb:=of_decide_eq_true hb|replace hb:=of_decide_eq_false hb|replace hb:=zao hb|replace hb:=zap hb|replace hb:=eq_of_beq hb|replace hb:=ne_of_beq_false hb|skip);all_goals(try(exfalso;omega))))
  all_goals first
   |(exfalso;omega)
   |(apply ret1;exact rfl;exact⟨h,dX,.inl ⟨by unfold zdd;simp;omega,rfl,rfl⟩⟩)
   |skip
 obtain⟨⟨n1,n2⟩,n3,n4⟩:=hin
 have hp:zdd np nb=true:=by unfold zdd;simp;omega
 rw[hp]
 obtain⟨n,rfl⟩:=Int.eq_ofNat_of_zero_le (show 0≤np by omega)
 obtain⟨m,rfl⟩:=Int.eq_ofNat_of_zero_le (show 0≤nb by omega)
 simp only[Int.toNat_natCast]
 repeat' (first
  |apply zaz|apply zaa|apply zay|apply zal|apply zam|apply zae|apply zaw
  |(apply zai hT;(iterate 4 exact rfl))|(apply zaj;(iterate 3 exact rfl))|(apply zad;(iterate 2 exact rfl))
  |(apply zax hT;(iterate 4 exact rfl);(iterate 2 (first|omega|(dsimp only;omega))))
  |(apply zar [] [] hmix;decide+kernel)
  |(apply zbL hT;(iterate 12 exact rfl);(iterate 1 exact rfl);omega;exact Nat.le_of_ble_eq_true rfl;intro g21)
  |(apply zaQ hT (cs:=[.slice none 0 0,.slice (some ⟨g21,0,none⟩) n n]);(iterate 4 exact rfl))
  |(apply zau;(iterate 5 exact rfl);intro g23)
  |(apply zab;(iterate 5 exact rfl);first|(apply zas hT;exact rfl;exact rfl;(repeat(first|exact List.mem_cons_self|apply List.mem_cons_of_mem));exact rfl;exact rfl)|(apply zaq hT;exact rfl;exact rfl;(repeat(first|exact List.mem_cons_self|apply List.mem_cons_of_mem));exact rfl))
  |(apply zau;(iterate 5 exact rfl);intro _)|(apply zac hT;(iterate 5 exact rfl);intro _)
  |(apply zaf;(iterate 2 exact rfl))|(apply zag;(iterate 2 exact rfl))
  |(apply zak;exact rfl;all_goals intro hb;all_goals(fail_if_success (change true=true at hb));all_goals(fail_if_success (change false=false at hb));all_goals(try dsimp only at hb);all_goals(try simp only[hb]);all_goals(first|replace hb:=of_decide_eq_true hb|replace hb:=of_decide_eq_false hb|replace hb:=zao hb|replace hb:=zap hb|replace hb:=eq_of_beq hb|replace hb:=ne_of_beq_false hb|skip);all_goals(try(exfalso;omega)))
  |(apply zan;exact rfl;all_goals intro hb;all_goals(try dsimp only at hb);all_goals(try simp only[hb]);all_goals(first|replace hb:=of_decide_eq_true hb|replace hb:=of_decide_eq_false hb|replace hb:=zao hb|replace hb:=zap hb|replace hb:=eq_of_beq hb|replace hb:=ne_of_beq_false hb|skip);all_goals(try(exfalso;omega))))
 all_goals try(exfalso;omega)
 refine zbG (fun w hw=>⟨_,hw.own_nil 66 1,?_⟩)
 refine zaX (α:=Nat×Option Addr×Nat×List PRow) (E:=fun x=>[(0,.int .i64 n),(1,.int .i64 m),(5,.pointer (some ⟨g23,0,none⟩)),(24,.int .i64 n),(25,.int .i64 x.1)])
  (H:=fun x=>zaZ g23 (some ⟨g21,0,none⟩) n x.2.1 x.2.2.1 (List.replicate n 0) x.2.2.2 h) (μ:=fun x=>n - x.1)
  (S:=fun x=>x.1≤n∧x.2.2.2.map PRow.l=List.replicate x.1 (List.replicate m 0)) (0,none,0,[]) ⟨Nat.zero_le _,rfl⟩ ⟨rfl,rfl,rfl,rfl,rfl,trivial⟩ (by unfold zaZ;rw[List.map_replicate,List.length_replicate];exact dX) ?_
 rintro⟨k,AR,cR,rs⟩ ⟨hk,hrs⟩
 dsimp only at hk hrs ⊢
 have hlen:rs.length=k:=by have:=congrArg List.length hrs;simpa using this
 by_cases hlt:k<n
 ·have hd1:decide ((k:Int)<(n:Int))=true:=by simp;omega
  unfold zaZ
  repeat' (first
   |apply zaz|apply zaa|apply zay|apply zal|apply zam|apply zae|apply zaw
   |(apply zai hT;(iterate 4 exact rfl))|(apply zaj;(iterate 3 exact rfl))|(apply zad;(iterate 2 exact rfl))
   |(apply zax hT;(iterate 4 exact rfl);(iterate 2 (first|omega|(dsimp only;omega))))
   |(apply zbj [] [] (.step 0 <| .step 1 <| .step 2 <| .step 3 <| .step 4 <| .step 5 <| .step 6 <| .step 7 <| .step 8 <| .step 9 <| .step 10 <| .step 11 <| .nil) hmix;decide+kernel)|apply zbX|apply zbY|(apply zbx;exact rfl)
   |(apply zbL hT;(iterate 12 exact rfl);(iterate 1 exact rfl);omega;exact Nat.le_of_ble_eq_true rfl;intro g33)
   |(apply zaI hT;(iterate 12 exact rfl);intro g34)
   |(apply za2 hT;(iterate 10 exact rfl);exact sX;exact zaD.own mem0 rfl (List.all_eq_true.1 rfl);omega;(show(_:Nat)*24≤_;omega);intro A' c')
   |(apply zaP hT;(iterate 6 exact rfl);exact sX;(iterate 3 exact rfl);exact Nat.le_of_ble_eq_true rfl)
   |(apply zab;(iterate 5 exact rfl);first|(apply zas hT;exact rfl;exact rfl;(repeat(first|exact List.mem_cons_self|apply List.mem_cons_of_mem));exact rfl;exact rfl)|(apply zaq hT;exact rfl;exact rfl;(repeat(first|exact List.mem_cons_self|apply List.mem_cons_of_mem));exact rfl))
   |(apply zau;(iterate 5 exact rfl);intro _)|(apply zac hT;(iterate 5 exact rfl);intro _)
   |(apply zaf;(iterate 2 exact rfl))|(apply zag;(iterate 2 exact rfl))
   |(apply zak;exact rfl;all_goals intro hb;all_goals(fail_if_success (change true=true at hb));all_goals(fail_if_success (change false=false at hb));all_goals(try dsimp only at hb);all_goals(try simp only[hb]);all_goals(first|replace hb:=of_decide_eq_true hb|replace hb:=of_decide_eq_false hb|replace hb:=zao hb|replace hb:=zap hb|replace hb:=eq_of_beq hb|replace hb:=ne_of_beq_false hb|skip);all_goals(try(exfalso;omega)))
   |(apply zan;exact rfl;all_goals intro hb;all_goals(try dsimp only at hb);all_goals(try simp only[hb]);all_goals(first|replace hb:=of_decide_eq_true hb|replace hb:=of_decide_eq_false hb|replace hb:=zao hb|replace hb:=zap hb|replace hb:=eq_of_beq hb|replace hb:=ne_of_beq_false hb|skip);all_goals(try(exfalso;omega))))
  all_goals first
   |(exfalso;omega)
   |(refine zaM (k+1,A',c',rs++[⟨some ⟨g33,0,none⟩,m,List.replicate m 0⟩]) (by dsimp only;omega) ⟨by dsimp only;omega,by dsimp only;rw[List.map_append,hrs,List.replicate_succ'];rfl⟩ ⟨rfl,rfl,rfl,rfl,rfl,trivial⟩ ?_
     dsimp only
     rw[lla,List.map_append,List.map_append,List.append_assoc]
     simp only[List.map_cons,List.map_nil,PRow.hd,PRow.ck,List.length_replicate,List.map_replicate,List.length_cons,List.length_nil,List.cons_append,List.nil_append]
     apply zbr;exact sX
     apply zbr;exact sX
     apply zbr;exact sX
     refine zip ?_
     exact dX)
   |skip
 ·obtain rfl:k=n:=by omega
  have hd1:decide ((k:Int)<(k:Int))=false:=by simp
  repeat' (first
   |apply zaz|apply zaa|apply zay|apply zal|apply zam|apply zae|apply zaw
   |(apply zai hT;(iterate 4 exact rfl))|(apply zaj;(iterate 3 exact rfl))|(apply zad;(iterate 2 exact rfl))
   |(apply zax hT;(iterate 4 exact rfl);(iterate 2 (first|omega|(dsimp only;omega))))
   |(apply zar [] [] hmix;decide+kernel)
   |(apply zab;(iterate 5 exact rfl);first|(apply zas hT;exact rfl;exact rfl;(repeat(first|exact List.mem_cons_self|apply List.mem_cons_of_mem));exact rfl;exact rfl)|(apply zaq hT;exact rfl;exact rfl;(repeat(first|exact List.mem_cons_self|apply List.mem_cons_of_mem));exact rfl))
   |(apply zau;(iterate 5 exact rfl);intro _)|(apply zac hT;(iterate 5 exact rfl);intro _)
   |(apply zaf;(iterate 2 exact rfl))|(apply zag;(iterate 2 exact rfl))
   |(apply zak;exact rfl;all_goals intro hb;all_goals(fail_if_success (change true=true at hb));all_goals(fail_if_success (change false=false at hb));all_goals(try dsimp only at hb);all_goals(try simp only[hb]);all_goals(first|replace hb:=of_decide_eq_true hb|replace hb:=of_decide_eq_false hb|replace hb:=zao hb|replace hb:=zap hb|replace hb:=eq_of_beq hb|replace hb:=ne_of_beq_false hb|skip);all_goals(try(exfalso;omega)))
   |(apply zan;exact rfl;all_goals intro hb;all_goals(try dsimp only at hb);all_goals(try simp only[hb]);all_goals(first|replace hb:=of_decide_eq_true hb|replace hb:=of_decide_eq_false hb|replace hb:=zao hb|replace hb:=zap hb|replace hb:=eq_of_beq hb|replace hb:=ne_of_beq_false hb|skip);all_goals(try(exfalso;omega))))
  all_goals first
   |(exfalso;omega)
   |(apply ret1;exact rfl;exact⟨_,zbJ,.inr ⟨by trivial,g23,_,_,_,_,_,rfl,rfl,hrs⟩⟩)
end Go.Proofs.YteocfhdocpeokaaGreat
set_option linter.unusedSimpArgs false
set_option linter.unusedVariables false
namespace Go.Sl
open Go
theorem zde {P:Program}{W:World}{N:Nat}{env:Env}{h:List zah}{kf:KF}{ops:Array Oper}{K:Env→List zah→Prop}{rest:List Oper}{b:Bool}{e f r:Int}{k:IntKind}{op:BinOp}{d:Tmp}{t yt:TypeId}{x y:Operand}{ty pos af g}(hg:zbi ops env g=some b)(hb:b=true)(hd:Nat.blt d N=true)(hop:zkN op=true)(hx:zaR env x=some (.int k e))(hy:zaR env y=some (.int k f))(hv:bitI op k e f=r)
 (hK:ES P W N kf ops rest ((d,.int k r)::env) h K):ES P W N kf ops (⟨some d,.binOp op t x y yt,ty,pos,af,g⟩::rest) env h K:=zgp hg hb hd hop hx hy (by rw[hv];exact hK)
end Go.Sl
namespace Go.Proofs.YteocfhdocpeokaaGreat
open Go Go.Sl
attribute [local irreducible] AW ES EP Ld RetQ
set_option maxRecDepth 100000
theorem zhz (W:World)(h:List zah):zaL Tryz.prog W 48 [] h (fun v h'=>∃p,v=.pointer (some ⟨p,0,none⟩)∧h'=.blk p 142 [.slice none 0 0]::h):=by
 refine zaA Tryz.func48 rfl rfl Tryz.results48 Tryz.ntmps48 rfl rfl ?_
 repeat' (first
  |apply zaz|apply zaa|apply zay|apply zal|apply zam|apply zae|apply zaw
  |(apply zai hT;(iterate 4 exact rfl))|(apply zaj;(iterate 3 exact rfl))|(apply zad;(iterate 2 exact rfl))
  |(apply zax hT;(iterate 4 exact rfl);(iterate 2 (first|omega|(dsimp only;omega))))
  |(apply zar [] [] hmix;decide+kernel)
  |(apply zaQ hT (cs:=[.slice none 0 0]);(iterate 4 exact rfl))
  |(apply zab;(iterate 5 exact rfl);first|(apply zas hT;exact rfl;exact rfl;(repeat(first|exact List.mem_cons_self|apply List.mem_cons_of_mem));exact rfl;exact rfl)|(apply zaq hT;exact rfl;exact rfl;(repeat(first|exact List.mem_cons_self|apply List.mem_cons_of_mem));exact rfl))
  |(apply zau;(iterate 5 exact rfl);intro _)|(apply zac hT;(iterate 5 exact rfl);intro _)
  |(apply zaf;(iterate 2 exact rfl))|(apply zag;(iterate 2 exact rfl))
  |(apply zak;exact rfl;all_goals intro hb;all_goals(fail_if_success (change true=true at hb));all_goals(fail_if_success (change false=false at hb));all_goals(try dsimp only at hb);all_goals(try simp only[hb]);all_goals(first|replace hb:=of_decide_eq_true hb|replace hb:=of_decide_eq_false hb|replace hb:=zao hb|replace hb:=zap hb|replace hb:=eq_of_beq hb|replace hb:=ne_of_beq_false hb|skip);all_goals(try(exfalso;omega)))
  |(apply zan;exact rfl;all_goals intro hb;all_goals(try dsimp only at hb);all_goals(try simp only[hb]);all_goals(first|replace hb:=of_decide_eq_true hb|replace hb:=of_decide_eq_false hb|replace hb:=zao hb|replace hb:=zap hb|replace hb:=eq_of_beq hb|replace hb:=ne_of_beq_false hb|skip);all_goals(try(exfalso;omega))))
 all_goals(apply ret1;exact rfl;exact⟨_,rfl,rfl⟩)
theorem zj6 (W:World)(h:List zah):zaL Tryz.prog W 49 [] h (fun v h'=>∃p,v=.pointer (some ⟨p,0,none⟩)∧h'=.blk p 144 [.slice none 0 0]::h):=by
 refine zaA Tryz.func49 rfl rfl Tryz.results49 Tryz.ntmps49 rfl rfl ?_
 repeat' (first
  |apply zaz|apply zaa|apply zay|apply zal|apply zam|apply zae|apply zaw
  |(apply zai hT;(iterate 4 exact rfl))|(apply zaj;(iterate 3 exact rfl))|(apply zad;(iterate 2 exact rfl))
  |(apply zax hT;(iterate 4 exact rfl);(iterate 2 (first|omega|(dsimp only;omega))))
  |(apply zar [] [] hmix;decide+kernel)
  |(apply zaQ hT (cs:=[.slice none 0 0]);(iterate 4 exact rfl))
  |(apply zab;(iterate 5 exact rfl);first|(apply zas hT;exact rfl;exact rfl;(repeat(first|exact List.mem_cons_self|apply List.mem_cons_of_mem));exact rfl;exact rfl)|(apply zaq hT;exact rfl;exact rfl;(repeat(first|exact List.mem_cons_self|apply List.mem_cons_of_mem));exact rfl))
  |(apply zau;(iterate 5 exact rfl);intro _)|(apply zac hT;(iterate 5 exact rfl);intro _)
  |(apply zaf;(iterate 2 exact rfl))|(apply zag;(iterate 2 exact rfl))
  |(apply zak;exact rfl;all_goals intro hb;all_goals(fail_if_success (change true=true at hb));all_goals(fail_if_success (change false=false at hb));all_goals(try dsimp only at hb);all_goals(try simp only[hb]);all_goals(first|replace hb:=of_decide_eq_true hb|replace hb:=of_decide_eq_false hb|replace hb:=zao hb|replace hb:=zap hb|replace hb:=eq_of_beq hb|replace hb:=ne_of_beq_false hb|skip);all_goals(try(exfalso;omega)))
  |(apply zan;exact rfl;all_goals intro hb;all_goals(try dsimp only at hb);all_goals(try simp only[hb]);all_goals(first|replace hb:=of_decide_eq_true hb|replace hb:=of_decide_eq_false hb|replace hb:=zao hb|replace hb:=zap hb|replace hb:=eq_of_beq hb|replace hb:=ne_of_beq_false hb|skip);all_goals(try(exfalso;omega))))
 all_goals(apply ret1;exact rfl;exact⟨_,rfl,rfl⟩)
theorem zj7 (W:World)(h:List zah):zaL Tryz.prog W 50 [] h (fun v h'=>∃p,v=.pointer (some ⟨p,0,none⟩)∧h'=.blk p 147 [.slice none 0 0]::h):=by
 refine zaA Tryz.func50 rfl rfl Tryz.results50 Tryz.ntmps50 rfl rfl ?_
 repeat' (first
  |apply zaz|apply zaa|apply zay|apply zal|apply zam|apply zae|apply zaw
  |(apply zai hT;(iterate 4 exact rfl))|(apply zaj;(iterate 3 exact rfl))|(apply zad;(iterate 2 exact rfl))
  |(apply zax hT;(iterate 4 exact rfl);(iterate 2 (first|omega|(dsimp only;omega))))
  |(apply zar [] [] hmix;decide+kernel)
  |(apply zaQ hT (cs:=[.slice none 0 0]);(iterate 4 exact rfl))
  |(apply zab;(iterate 5 exact rfl);first|(apply zas hT;exact rfl;exact rfl;(repeat(first|exact List.mem_cons_self|apply List.mem_cons_of_mem));exact rfl;exact rfl)|(apply zaq hT;exact rfl;exact rfl;(repeat(first|exact List.mem_cons_self|apply List.mem_cons_of_mem));exact rfl))
  |(apply zau;(iterate 5 exact rfl);intro _)|(apply zac hT;(iterate 5 exact rfl);intro _)
  |(apply zaf;(iterate 2 exact rfl))|(apply zag;(iterate 2 exact rfl))
  |(apply zak;exact rfl;all_goals intro hb;all_goals(fail_if_success (change true=true at hb));all_goals(fail_if_success (change false=false at hb));all_goals(try dsimp only at hb);all_goals(try simp only[hb]);all_goals(first|replace hb:=of_decide_eq_true hb|replace hb:=of_decide_eq_false hb|replace hb:=zao hb|replace hb:=zap hb|replace hb:=eq_of_beq hb|replace hb:=ne_of_beq_false hb|skip);all_goals(try(exfalso;omega)))
  |(apply zan;exact rfl;all_goals intro hb;all_goals(try dsimp only at hb);all_goals(try simp only[hb]);all_goals(first|replace hb:=of_decide_eq_true hb|replace hb:=of_decide_eq_false hb|replace hb:=zao hb|replace hb:=zap hb|replace hb:=eq_of_beq hb|replace hb:=ne_of_beq_false hb|skip);all_goals(try(exfalso;omega))))
 all_goals(apply ret1;exact rfl;exact⟨_,rfl,rfl⟩)
theorem ziR (W:World)(h:List zah):zaL Tryz.prog W 51 [] h (fun v h'=>∃p,v=.pointer (some ⟨p,0,none⟩)∧h'=.blk p 149 [.slice none 0 0,.int .u64 0]::h):=by
 refine zaA Tryz.func51 rfl rfl Tryz.results51 Tryz.ntmps51 rfl rfl ?_
 repeat' (first
  |apply zaz|apply zaa|apply zay|apply zal|apply zam|apply zae|apply zaw
  |(apply zai hT;(iterate 4 exact rfl))|(apply zaj;(iterate 3 exact rfl))|(apply zad;(iterate 2 exact rfl))
  |(apply zax hT;(iterate 4 exact rfl);(iterate 2 (first|omega|(dsimp only;omega))))
  |(apply zar [] [] hmix;decide+kernel)
  |(apply zaQ hT (cs:=[.slice none 0 0,.int .u64 0]);(iterate 4 exact rfl))
  |(apply zab;(iterate 5 exact rfl);first|(apply zas hT;exact rfl;exact rfl;(repeat(first|exact List.mem_cons_self|apply List.mem_cons_of_mem));exact rfl;exact rfl)|(apply zaq hT;exact rfl;exact rfl;(repeat(first|exact List.mem_cons_self|apply List.mem_cons_of_mem));exact rfl))
  |(apply zau;(iterate 5 exact rfl);intro _)|(apply zac hT;(iterate 5 exact rfl);intro _)
  |(apply zaf;(iterate 2 exact rfl))|(apply zag;(iterate 2 exact rfl))
  |(apply zak;exact rfl;all_goals intro hb;all_goals(fail_if_success (change true=true at hb));all_goals(fail_if_success (change false=false at hb));all_goals(try dsimp only at hb);all_goals(try simp only[hb]);all_goals(first|replace hb:=of_decide_eq_true hb|replace hb:=of_decide_eq_false hb|replace hb:=zao hb|replace hb:=zap hb|replace hb:=eq_of_beq hb|replace hb:=ne_of_beq_false hb|skip);all_goals(try(exfalso;omega)))
  |(apply zan;exact rfl;all_goals intro hb;all_goals(try dsimp only at hb);all_goals(try simp only[hb]);all_goals(first|replace hb:=of_decide_eq_true hb|replace hb:=of_decide_eq_false hb|replace hb:=zao hb|replace hb:=zap hb|replace hb:=eq_of_beq hb|replace hb:=ne_of_beq_false hb|skip);all_goals(try(exfalso;omega))))
 all_goals(apply ret1;exact rfl;exact⟨_,rfl,rfl⟩)
theorem ziS (W:World)(h:List zah):zaL Tryz.prog W 52 [] h (fun v h'=>∃p,v=.pointer (some ⟨p,0,none⟩)∧h'=.blk p 152 [.slice none 0 0]::h):=by
 refine zaA Tryz.func52 rfl rfl Tryz.results52 Tryz.ntmps52 rfl rfl ?_
 repeat' (first
  |apply zaz|apply zaa|apply zay|apply zal|apply zam|apply zae|apply zaw
  |(apply zai hT;(iterate 4 exact rfl))|(apply zaj;(iterate 3 exact rfl))|(apply zad;(iterate 2 exact rfl))
  |(apply zax hT;(iterate 4 exact rfl);(iterate 2 (first|omega|(dsimp only;omega))))
  |(apply zar [] [] hmix;decide+kernel)
  |(apply zaQ hT (cs:=[.slice none 0 0]);(iterate 4 exact rfl))
  |(apply zab;(iterate 5 exact rfl);first|(apply zas hT;exact rfl;exact rfl;(repeat(first|exact List.mem_cons_self|apply List.mem_cons_of_mem));exact rfl;exact rfl)|(apply zaq hT;exact rfl;exact rfl;(repeat(first|exact List.mem_cons_self|apply List.mem_cons_of_mem));exact rfl))
  |(apply zau;(iterate 5 exact rfl);intro _)|(apply zac hT;(iterate 5 exact rfl);intro _)
  |(apply zaf;(iterate 2 exact rfl))|(apply zag;(iterate 2 exact rfl))
  |(apply zak;exact rfl;all_goals intro hb;all_goals(fail_if_success (change true=true at hb));all_goals(fail_if_success (change false=false at hb));all_goals(try dsimp only at hb);all_goals(try simp only[hb]);all_goals(first|replace hb:=of_decide_eq_true hb|replace hb:=of_decide_eq_false hb|replace hb:=zao hb|replace hb:=zap hb|replace hb:=eq_of_beq hb|replace hb:=ne_of_beq_false hb|skip);all_goals(try(exfalso;omega)))
  |(apply zan;exact rfl;all_goals intro hb;all_goals(try dsimp only at hb);all_goals(try simp only[hb]);all_goals(first|replace hb:=of_decide_eq_true hb|replace hb:=of_decide_eq_false hb|replace hb:=zao hb|replace hb:=zap hb|replace hb:=eq_of_beq hb|replace hb:=ne_of_beq_false hb|skip);all_goals(try(exfalso;omega))))
 all_goals(apply ret1;exact rfl;exact⟨_,rfl,rfl⟩)
def kb1 :za1:=⟨5,10,10,100,5,500,false⟩
def kb2 :za1:=⟨1,1,1,1000,1,1000,false⟩
def kps :List zaJ:=[⟨1,12,0⟩,⟨1,4,0⟩,⟨2,0,100000⟩,⟨2,0,3000⟩,⟨3,0,0⟩]
theorem zlh (W:World)(h:List zah):zaL Tryz.prog W 17 [.int .i64 0] h
 (fun v h'=>∃g1 g2,v=zee (some ⟨g1,0,none⟩) 2 2 (some ⟨g2,0,none⟩) 5 5 3 50∧h'=.own (some ⟨g1,0,none⟩) 2 2 95 7 ([kb1,kb2].flatMap za1.enc)::.own (some ⟨g2,0,none⟩) 5 5 97 3 (kps.flatMap zaJ.enc)::h):=by
 refine zaL.dropTo ?_
 refine zaA Tryz.func17 rfl rfl Tryz.results17 Tryz.ntmps17 rfl rfl ?_
 repeat' (first
  |apply zaz|apply zaa|apply zay|apply zal|apply zam|apply zae|apply zaw
  |(apply zai hT;(iterate 4 exact rfl))|(apply zaj;(iterate 3 exact rfl))|(apply zad;(iterate 2 exact rfl))
  |(apply zax hT;(iterate 4 exact rfl);(iterate 2 (first|omega|(dsimp only;omega))))
  |(apply zar [] [] hmix;decide+kernel)
  |(apply zaQ hT (cs:=za1.enc kb1);(iterate 4 exact rfl))
  |(apply zaQ hT (cs:=za1.enc kb2);(iterate 4 exact rfl))
  |(apply zaQ hT (cs:=zaJ.enc ⟨1,12,0⟩);(iterate 4 exact rfl))
  |(apply zaQ hT (cs:=zaJ.enc ⟨1,4,0⟩);(iterate 4 exact rfl))
  |(apply zaQ hT (cs:=zaJ.enc ⟨2,0,100000⟩);(iterate 4 exact rfl))
  |(apply zaQ hT (cs:=zaJ.enc ⟨2,0,3000⟩);(iterate 4 exact rfl))
  |(apply zaQ hT (cs:=zaJ.enc ⟨3,0,0⟩);(iterate 4 exact rfl))
  |(apply zaI hT;(iterate 12 exact rfl);first|((fail_if_success (have q:=g10));intro g10)|intro g16)
  |(apply zaQ hT (cs:=(zee (some ⟨g10,0,none⟩) 2 2 (some ⟨g16,0,none⟩) 5 5 3 50).cells.toList);(iterate 4 exact rfl))
  |(apply zde;(iterate 6 exact rfl);exact(by decide+kernel:bitI .and .i64 0 3=0))
  |(apply zaP hT;(iterate 6 exact rfl);exact sX;(iterate 3 exact rfl);exact Nat.le_of_ble_eq_true rfl)
  |(apply zab;(iterate 5 exact rfl);first|(apply zas hT;exact rfl;exact rfl;(repeat(first|exact List.mem_cons_self|apply List.mem_cons_of_mem));exact rfl;exact rfl)|(apply zaq hT;exact rfl;exact rfl;(repeat(first|exact List.mem_cons_self|apply List.mem_cons_of_mem));exact rfl))
  |(apply zau;(iterate 5 exact rfl);intro _)|(apply zac hT;(iterate 5 exact rfl);intro _)
  |(apply zaf;(iterate 2 exact rfl))|(apply zag;(iterate 2 exact rfl))
  |(apply zak;exact rfl;all_goals intro hb;all_goals(fail_if_success (change true=true at hb));all_goals(fail_if_success (change false=false at hb));all_goals(try dsimp only at hb);all_goals(try simp only[hb]);all_goals(first|replace hb:=of_decide_eq_true hb|replace hb:=of_decide_eq_false hb|replace hb:=zao hb|replace hb:=zap hb|replace hb:=eq_of_beq hb|replace hb:=ne_of_beq_false hb|skip);all_goals(try(exfalso;omega)))
  |(apply zan;exact rfl;all_goals intro hb;all_goals(try dsimp only at hb);all_goals(try simp only[hb]);all_goals(first|replace hb:=of_decide_eq_true hb|replace hb:=of_decide_eq_false hb|replace hb:=zao hb|replace hb:=zap hb|replace hb:=eq_of_beq hb|replace hb:=ne_of_beq_false hb|skip);all_goals(try(exfalso;omega))))
 all_goals first
  |(apply zk1;exact rfl;(apply zaq hT;exact rfl;exact rfl;(repeat(first|exact List.mem_cons_self|apply List.mem_cons_of_mem));exact rfl);exact⟨_,(by show zaW _ (.own (some ⟨g10,0,none⟩) 2 2 95 7 ([kb1,kb2].flatMap za1.enc)::.own (some ⟨g16,0,none⟩) 5 5 97 3 (kps.flatMap zaJ.enc)::h);exact dX),g10,g16,rfl,rfl⟩)
  |skip
end Go.Proofs.YteocfhdocpeokaaGreat
set_option linter.unusedSimpArgs false
set_option linter.unusedVariables false
namespace Go.Proofs.YteocfhdocpeokaaGreat
open Go Go.Sl
structure Dk where
 bonds:List za1
 parties:List zaJ
 look:Int
 beat:Int
 now:Int
 books:List (List zav)
 used:List Int
 quotes:List zaH
 asks:List AskR
 due:List Due
 cash:List Int
 pos:List (List Int)
 trades:List zaB
 head:Int
 order:Int
 seq:Int
 quote:Int
 ask:Int
def zbH (bs:List za1)(ps:List zaJ)(look beat:Int):Dk:=
 ⟨bs,ps,look,beat,0,List.replicate bs.length [],List.replicate ps.length 0,[],[],[],List.replicate ps.length 0,List.replicate ps.length (List.replicate bs.length 0),[],0,0,0,0,0⟩
/-- where a slice lies: its first cell, its room -/
structure Sp where
 A:Option Addr
 c:Nat
def Sp.sl (s:Sp)(n:Nat):Value:=.slice s.A n s.c
def Sp.own (s:Sp)(n:Nat)(t:TypeId)(k:Nat)(cs:List Value):zah:=.own s.A n s.c t k cs
/-- a book: where it lies, its orders -/
structure BAd where
 p:Nat
 s:Sp
 l:List zav
def BAd.ptr (b:BAd):Value:=.pointer (some ⟨b.p,0,none⟩)
def BAd.ck (b:BAd):List zah:=[.blk b.p 152 [b.s.sl b.l.length],b.s.own b.l.length 168 6 (b.l.flatMap zav.enc)]
/-- where a desk's parts lie -/
structure DAd where
 d:Nat
 f:Nat
 q:Nat
 a:Nat
 u:Nat
 p:Nat
 b:Nat
 bonds:Sp
 parties:Sp
 books:Sp
 fparties:Sp
 used:Sp
 quotes:Sp
 asks:Sp
 due:Sp
 cash:Sp
 pos:Sp
 trades:Sp
def ptrV (n:Nat):Value:=.pointer (some ⟨n,0,none⟩)
def zcs (x:DAd)(s:Dk):List Value:=[x.bonds.sl s.bonds.length,x.parties.sl s.parties.length,.int .i64 s.look,.int .i64 s.beat,.int .i64 s.now,x.books.sl s.books.length,ptrV x.f,ptrV x.q,ptrV x.a,ptrV x.u,ptrV x.p,ptrV x.b,
 .int .i64 s.order,.int .i64 s.seq,.int .i64 s.quote,.int .i64 s.ask]
def za3 (x:DAd)(s:Dk)(bks:List BAd)(rows:List PRow)(F:List zah):List zah:=
 .blk x.d 112 (zcs x s)::x.bonds.own s.bonds.length 95 7 (s.bonds.flatMap za1.enc)::x.parties.own s.parties.length 97 3 (s.parties.flatMap zaJ.enc)
  ::x.books.own s.books.length 113 1 (bks.map BAd.ptr)
  ::.blk x.f 139 [x.fparties.sl s.parties.length,x.used.sl s.parties.length]::x.fparties.own s.parties.length 97 3 (s.parties.flatMap zaJ.enc)::x.used.own s.parties.length 2 1 (s.used.map (Value.int .i64))
  ::.blk x.q 142 [x.quotes.sl s.quotes.length]::x.quotes.own s.quotes.length 174 6 (s.quotes.flatMap zaH.enc)
  ::.blk x.a 144 [x.asks.sl s.asks.length]::x.asks.own s.asks.length 87 10 (s.asks.flatMap AskR.enc)
  ::.blk x.u 147 [x.due.sl s.due.length]::x.due.own s.due.length 160 3 (s.due.flatMap Due.enc)
  ::.blk x.p 69 [x.pos.sl rows.length,x.cash.sl s.cash.length]::x.cash.own s.cash.length 2 1 (s.cash.map (Value.int .i64))::x.pos.own rows.length 66 1 (rows.map PRow.hd)
  ::.blk x.b 149 [x.trades.sl s.trades.length,.int .u64 s.head]::x.trades.own s.trades.length 30 8 (s.trades.flatMap zaB.enc)
  ::(bks.flatMap BAd.ck++(rows.map PRow.ck++F))
/-- the memory fits the state -/
def zff (s:Dk)(bks:List BAd)(rows:List PRow):Prop:=bks.map BAd.l=s.books∧rows.map PRow.l=s.pos
end Go.Proofs.YteocfhdocpeokaaGreat
set_option linter.unusedSimpArgs false
set_option linter.unusedVariables false
namespace Go.Proofs.YteocfhdocpeokaaGreat
open Go Go.Sl
def at0 {α:Type}(l:List α)(i:Int):Option α:=if i<0 then none else l[i.toNat]?
def inW (n:Int):Prop:= -9223372036854775808≤n∧n≤9223372036854775807
def inI (n:Int):Bool:=inB n (-9223372036854775808) 9223372036854775807
theorem zdI {n:Int}(h:inI n=true): -9223372036854775808≤n∧n≤9223372036854775807:=zcV h
theorem zli {n:Int}(h:inI n=false):n< -9223372036854775808∨9223372036854775807<n:=zme h
structure Ps where
 cash:List Int
 pos:List (List Int)
def zbv (p:Ps)(who bond:Int):Int:=((at0 p.pos who).bind fun r=>at0 r bond).getD 0
def zbh (p:Ps)(who:Int):Int:=(at0 p.cash who).getD 0
def zbU (p:Ps)(who bond:Int):Bool:=decide (0≤who)&&(decide (who<p.cash.length)&&(decide (0≤bond)&&decide (bond<((at0 p.pos who).getD []).length)))
def putE (p:Ps)(t:zaB):Int:=
 if zbU p t.buyer t.bond=false∨zbU p t.seller t.bond=false∨t.buyer=t.seller∨t.price<1∨t.qty<1 then 1
 else if inI (t.price*t.qty)&&inI (zbv p t.buyer t.bond+t.qty)&&inI (zbv p t.seller t.bond - t.qty)&&inI (zbh p t.buyer - t.price*t.qty)&&inI (zbh p t.seller+t.price*t.qty)then 0 else 15
def setRow (l:List (List Int))(who bond n:Int):List (List Int):=l.set who.toNat (((at0 l who).getD []).set bond.toNat n)
def putP (p:Ps)(t:zaB):Ps:=
 if putE p t=0 then⟨(p.cash.set t.buyer.toNat (zbh p t.buyer - t.price*t.qty)).set t.seller.toNat (zbh p t.seller+t.price*t.qty),
  setRow (setRow p.pos t.buyer t.bond (zbv p t.buyer t.bond+t.qty)) t.seller t.bond (zbv p t.seller t.bond - t.qty)⟩else p
theorem zfg {α:Type}:∀{l:List α} {i:Nat},i<l.length→∃R,∀a,(l.set i a).Perm (a::R)
 |[],i,h=>absurd h (Nat.not_lt_zero _)
 |x::l,0,_=>⟨l,fun a=>plr _⟩
 |x::l,i+1,h=>by
  obtain⟨R,hR⟩:=zfg (l:=l) (i:=i) (by simpa using h)
  exact⟨x::R,fun a=>((hR a).cons x).trans (List.Perm.swap _ _ _)⟩
theorem zeg {α:Type}:∀{l:List α} {i j:Nat},i<l.length→j<l.length→i≠j→∃R,∀a b,((l.set i a).set j b).Perm (a::b::R)
 |[],i,j,h,_,_=>absurd h (Nat.not_lt_zero _)
 |x::l,0,0,_,_,h=>absurd rfl h
 |x::l,0,j+1,_,h,_=>by
  obtain⟨R,hR⟩:=zfg (l:=l) (i:=j) (by simpa using h)
  exact⟨R,fun a b=>(hR b).cons a⟩
 |x::l,i+1,0,h,_,_=>by
  obtain⟨R,hR⟩:=zfg (l:=l) (i:=i) (by simpa using h)
  exact⟨R,fun a b=>((hR a).cons b).trans (List.Perm.swap _ _ _)⟩
 |x::l,i+1,j+1,h1,h2,h3=>by
  obtain⟨R,hR⟩:=zeg (l:=l) (i:=i) (j:=j) (by simpa using h1) (by simpa using h2) (by omega)
  exact⟨x::R,fun a b=>((hR a b).cons x).trans (((List.Perm.swap a x _).trans ((List.Perm.swap b x R).cons a)))⟩
theorem zcD {α:Type}{l:List α}{i:Nat}{a:α}(h:l[i]? =some a):l.set i a=l:=by
 obtain⟨hi,rfl⟩:=gsi.1 h
 exact List.set_getElem_self hi
end Go.Proofs.YteocfhdocpeokaaGreat
set_option linter.unusedSimpArgs false
set_option linter.unusedVariables false
namespace Go.Proofs.YteocfhdocpeokaaGreat
open Go Go.Sl
def zkQ (b:za1)(p:Int):Int:=if inB p b.low b.high=false then 10 else if p%b.tick≠0 then 7 else 0
def qtyE (b:za1)(q:Int):Int:=if inB q b.min b.max=false then 9 else if q%b.lot≠0 then 8 else 0
def zkR (b:za1)(p q:Int):Int:=if b.halted then 6 else if zkQ b p≠0 then zkQ b p else qtyE b q
def zlV (ps:List zaJ)(who:Int):Int:=((at0 ps who).map zaJ.role).getD 0
def zlW (x i:Int):Bool:=decide (x / 2^i.toNat%2=1)
end Go.Proofs.YteocfhdocpeokaaGreat
set_option linter.unusedSimpArgs false
set_option linter.unusedVariables false
namespace Go.Proofs.YteocfhdocpeokaaGreat
open Go Go.Sl
/-! ### rows by an order -/
theorem zlj {α:Type}{p:α→α→Bool}{m:List α}{q:α}(h:m.Pairwise fun a b=>p a b=true)(htr:∀a b c,p a b=true→p b c=true→p a c=true)(htot:∀x∈m,p x q=true∨p q x=true){n:Nat}(hn:n=(m.takeWhile fun x=>p x q).length):
 (m.take n++[q]++m.drop n).Pairwise fun a b=>p a b=true:=by
 subst hn
 have hl:∀x∈m.take (m.takeWhile fun x=>p x q).length,p x q=true:=fun x hx=>zbD (p:=fun x=>p x q) (l:=m) x hx
 have hsplit:m.take (m.takeWhile fun x=>p x q).length++m.drop (m.takeWhile fun x=>p x q).length=m:=List.take_append_drop _ _
 have hp:=h
 rw[←hsplit,List.pairwise_append]at hp
 obtain⟨p1,p2,p3⟩:=hp
 have hr:∀y∈m.drop (m.takeWhile fun x=>p x q).length,p q y=true:=fun y hy=>by
  cases hm:m.drop (m.takeWhile fun x=>p x q).length with
  |nil=>rw[hm]at hy;cases hy
  |cons z r=>
   have hz:=zbN (p:=fun x=>p x q) (l:=m) hm
   have hzl:z∈m:=List.mem_of_mem_drop (by rw[hm];simp)
   have hqz:p q z=true:=by
    rcases htot z hzl with h|h
    ·rw[hz]at h;cases h
    ·exact h
   rw[hm]at hy p2
   rcases List.mem_cons.1 hy with rfl|hy
   ·exact hqz
   ·exact htr _ _ _ hqz (List.rel_of_pairwise_cons p2 hy)
 rw[List.append_assoc,List.pairwise_append]
 refine⟨p1,?_,fun x hx y hy=> ?_⟩
 ·rw[List.singleton_append,List.pairwise_cons];exact⟨hr,p2⟩
 ·rw[List.singleton_append]at hy
  rcases List.mem_cons.1 hy with rfl|hy
  ·exact hl x hx
  ·exact p3 x hx y hy
theorem ziT {α:Type}{p:α→α→Bool}(has:∀x y,p x y=true→p y x=true→False):∀{a b:List α},a.Pairwise (fun x y=>p x y=true)→b.Pairwise (fun x y=>p x y=true)→a.Perm b→a=b
 |[],b,_,_,hp=>by rw[List.nil_perm.1 hp]
 |x::a,[],_,_,hp=>by have:=hp.length_eq;simp at this
 |x::a,y::b,ha,hb,hp=>by
  rw[List.pairwise_cons]at ha hb
  have hxy:x=y:=by
   rcases List.mem_cons.1 (hp.mem_iff.1 (List.mem_cons_self (a:=x) (l:=a)))with h|h
   ·exact h
   ·rcases List.mem_cons.1 (hp.mem_iff.2 (List.mem_cons_self (a:=y) (l:=b)))with h'|h'
    ·exact h'.symm
    ·exact(has _ _ (ha.1 y h') (hb.1 x h)).elim
  subst hxy
  rw[ziT has ha.2 hb.2 (List.Perm.cons_inv hp)]
/-! ### orders -/
def zbn (s a b:Int):Bool:=(s==1&&decide (a>b))||(s==2&&decide (a<b))
def isB (s:Int):Bool:=s==1||s==2
/-- which of a side is ahead -/
def zbm (s:Int)(a b:zav):Bool:=if a.price=b.price then decide (a.seq<b.seq)else zbn s a.price b.price
theorem ziU {s:Int}(a b c:zav)(h1:zbm s a b=true)(h2:zbm s b c=true):zbm s a c=true:=by
 unfold zbm zbn at*
 split at h1<;>split at h2<;>split<;>simp at* <;>omega
theorem zfL {s:Int}(a b:zav)(h1:zbm s a b=true)(h2:zbm s b a=true):False:=by
 unfold zbm zbn at*
 split at h1<;>split at h2<;>simp at* <;>omega
theorem zeU {s:Int}(hs:isB s=true)(a b:zav)(h:a.seq≠b.seq):zbm s a b=true∨zbm s b a=true:=by
 unfold zbm zbn isB at*
 simp at hs
 split<;>split<;>simp at* <;>omega
def cfO (a b:zav):Int:=if zbn a.side a.price b.price then -1 else if zbn a.side b.price a.price then 1 else cmpI a.seq b.seq
theorem ziV {s:Int}(hs:isB s=true){a b:zav}(ha:a.side=s)(hb:b.side=s):(cfO a b<0)↔zbm s a b=true:=by
 unfold cfO zbm zbn cmpI isB at*
 subst ha
 simp at hs
 by_cases hp:a.price=b.price
 ·rw[if_pos hp,hp]
  simp
  split<;>(try split)<;>omega
 ·rw[if_neg hp]
  constructor
  ·intro h
   split at h
   ·assumption
   ·split at h
    ·omega
    ·rename_i h1 h2
     exfalso
     simp at h1 h2
     omega
  ·intro h
   rw[if_pos h];omega
def insO (s:Int)(out:List zav)(o:zav):List zav:=out.take (out.takeWhile fun x=>zbm s x o).length++[o]++out.drop (out.takeWhile fun x=>zbm s x o).length
def za7 (s:Int)(o:zav):Bool:=o.side==s
def zbo (s:Int)(l:List zav):List zav:=(l.filter (za7 s)).foldl (insO s) []
def zdf (l:List zav):Prop:=l.Pairwise fun a b=>a.seq≠b.seq
theorem zfM (s:Int)(out:List zav)(o:zav):(insO s out o).Perm (o::out):=zdP out o _
theorem zeV (s:Int):∀(l out:List zav),(l.foldl (insO s) out).Perm (l++out)
 |[],out=>plr _
 |x::l,out=>by
  rw[List.foldl_cons]
  exact(zeV s l (insO s out x)).trans ((List.Perm.append_left l (zfM s out x)).trans List.perm_middle)
theorem zeW {l r:List zav}(hp:r.Perm l)(h:zdf l):zdf r:=(hp.pairwise_iff (fun{a b} hab e=>hab e.symm)).2 h
theorem zg9 {s:Int}(hs:isB s=true):∀(l out:List zav),zdf (l++out)→out.Pairwise (fun a b=>zbm s a b=true)→(l.foldl (insO s) out).Pairwise (fun a b=>zbm s a b=true)
 |[],out,_,h=>h
 |x::l,out,hu,h=>by
  rw[List.foldl_cons]
  have hu2:zdf (l++insO s out x):=by
   have hp:(x::l++out).Perm (l++insO s out x):=List.perm_middle.symm.trans (List.Perm.append_left l (zfM s out x).symm)
   exact zeW hp.symm hu
  refine zg9 hs l (insO s out x) hu2 (zlj h (fun a b c=>ziU a b c) (fun y hy=> ?_) rfl)
  have hu3:zdf (x::(l++out)):=hu
  unfold zdf at hu3
  rw[List.pairwise_cons]at hu3
  exact zeU hs y x (fun e=>hu3.1 y (List.mem_append_right _ hy) e.symm)
theorem zbC (s:Int)(l:List zav):(zbo s l).Perm (l.filter (za7 s)):=by
 have:=zeV s (l.filter (za7 s)) []
 rw[List.append_nil]at this;exact this
theorem zdS {s:Int}(hs:isB s=true){l:List zav}(hu:zdf l):(zbo s l).Pairwise (fun a b=>zbm s a b=true):=
 zg9 hs _ [] (by rw[List.append_nil];exact hu.sublist List.filter_sublist) List.Pairwise.nil
theorem zfN (s:Int)(l:List zav):(zbo s l).length≤l.length:=by
 rw[(zbC s l).length_eq];exact List.length_filter_le _ _
theorem zca {s:Int}{l:List zav}{o:zav}(h:o∈zbo s l):o∈l∧o.side=s:=by
 have:=(zbC s l).mem_iff.1 h
 rw[List.mem_filter]at this
 exact⟨this.1,by simpa [za7]using this.2⟩
/-- what the sort leaves is the side by its order -/
theorem zgx {s:Int}{l m:List zav}(hu:zdf l)(hv:∀o∈l,isB o.side=true)(hp:m.Perm (l.filter (za7 s)))(hs:m.Pairwise (fun a b=>¬cfO b a<0)):m=zbo s l:=by
 by_cases hb:isB s=true
 ·refine ziT (p:=zbm s) (fun x y=>zfL x y) ?_ (zdS hb hu) (hp.trans (zbC s l).symm)
  have hmu:zdf m:=zeW hp (hu.sublist List.filter_sublist)
  have hms:∀o∈m,o.side=s:=fun o ho=>by
   have:=hp.mem_iff.1 ho
   rw[List.mem_filter]at this
   simpa [za7]using this.2
  refine List.Pairwise.imp_of_mem (fun{a b} ha hb' hab=> ?_) (hs.and hmu)
  rcases zeU hb a b hab.2 with h|h
  ·exact h
  ·exact absurd ((ziV hb (hms b hb') (hms a ha)).2 h) hab.1
 ·have he:l.filter (za7 s)=[]:=by
   rw[List.filter_eq_nil_iff]
   intro o ho hos
   have:=hv o ho
   simp only[za7,beq_iff_eq]at hos
   rw[hos]at this
   exact hb this
  rw[he]at hp
  rw[List.perm_nil.1 hp]
  unfold zbo;rw[he];rfl
/-! ### levels -/
structure Lvl where
 price:Int
 qty:Int
 deriving DecidableEq
def Lvl.enc (v:Lvl):List Value:=[.int .i64 v.price,.int .i64 v.qty]
theorem Lvl.enc_len (v:Lvl):v.enc.length=2:=rfl
theorem Lvl.enc_one (v:Lvl):∀x∈v.enc,x.oneCell'=true:=List.all_eq_true.1 (rfl:v.enc.all Value.oneCell'=true)
def zcM (v:List Lvl)(o:zav):List Lvl:=match v.getLast? with
 |some x=>if x.price=o.price then v.dropLast++[⟨x.price,x.qty+o.left⟩]else v++[⟨o.price,o.left⟩]
 |none=>[⟨o.price,o.left⟩]
def za4 (o:List zav):List Lvl:=o.foldl zcM []
theorem ziW (v:List Lvl)(o:zav):(zcM v o).length≤v.length+1:=by
 unfold zcM
 split
 ·rename_i x hx
  have hne:v≠[]:=fun e=>by rw[e]at hx;cases hx
  split
  ·simp
   (try(have:=List.length_pos_iff.2 hne;omega))
  ·simp
 ·simp
theorem zeh (o:List zav)(x:zav):za4 (o++[x])=zcM (za4 o) x:=by simp[za4,List.foldl_append]
end Go.Proofs.YteocfhdocpeokaaGreat
set_option linter.unusedSimpArgs false
set_option linter.unusedVariables false
namespace Go.Proofs.YteocfhdocpeokaaGreat
open Go Go.Sl
attribute [local irreducible] AW ES EP Ld RetQ
set_option maxRecDepth 100000
def okO (o:zav):Bool:=decide (o.id≥1)&&decide (o.seq≥1)&&decide (o.price≥1)&&decide (o.price≤1000000)&&decide (o.left≥1)&&decide (o.left≤1000000)&&decide (o.owner≥0)&&isB o.side
def hasO (id:Int)(o:zav):Bool:=o.id==id
/-! ### Add -/
def zdE (o x:zav):Bool:=x.id==o.id||x.seq==o.seq
def zj8 (o:zav)(l:List zav):Int:=if okO o=false∨za0 (zdE o) l≥0 then 1 else if l.length≥64 then 3 else 0
def addO (o:zav)(l:List zav):List zav:=if zj8 o l=0 then l++[o]else l
/-! ### Get, Drop, Less -/
def getO (id:Int)(l:List zav):Option zav:=l.find? (hasO id)
theorem zdx {α:Type}{p:α→Bool}(r:List α):(za0 p r= -1∧r.find? p=none)∨(∃(i:Nat) (x:α),za0 p r=i∧r[i]? =some x∧p x=true∧r.find? p=some x):=by
 by_cases h:za0 p r<0
 ·left
  have:=zg4 (p:=p) (l:=r)
  refine⟨by omega,?_⟩
  rw[List.find?_eq_none]
  intro x hx
  have:=zbt.1 h x hx
  simp[this]
 ·right
  obtain⟨i,hi⟩:=Int.eq_ofNat_of_zero_le (show 0≤za0 p r by omega)
  obtain⟨x,hx,hp,hb⟩:=zd5 (p:=p) (l:=r) (i:=i) hi
  refine⟨i,x,hi,hx,hp,?_⟩
  rw[List.find?_eq_some_iff_getElem]
  obtain⟨hlt,hxe⟩:=gsi.1 hx
  refine⟨hp,i,hlt,hxe,fun j hj=> ?_⟩
  have:=hb j r[j] hj (gge (by omega))
  simp[this]
def zbR (id:Int)(l:List zav):List zav:=if za0 (hasO id) l<0 then l else l.take (za0 (hasO id) l).toNat++l.drop ((za0 (hasO id) l).toNat+1)
def zdJ (id left:Int)(l:List zav):Int:=match getO id l with
 |none=>4
 |some x=>if left<1∨left>x.left then 1 else 0
def zct (id left:Int)(l:List zav):List zav:=match getO id l with
 |none=>l
 |some x=>if zdJ id left l=0 then l.set (za0 (hasO id) l).toNat {x with left:=left}else l
theorem zfO (W:World)(s:Int):zaF Tryz.prog W 82 [.pointer none,.int .i64 s] [] (.slice none 0 0):=by
 refine zaF.ofD (fun h' hs=> ?_)
 refine zaA Tryz.func82 rfl rfl Tryz.results82 Tryz.ntmps82 rfl rfl ?_
 repeat' (first
  |apply zaz|apply zaa|apply zay|apply zal|apply zam|apply zae|apply zaw
  |(apply zai hT;(iterate 4 exact rfl))|(apply zaj;(iterate 3 exact rfl))|(apply zad;(iterate 2 exact rfl))
  |(apply zax hT;(iterate 4 exact rfl);(iterate 2 omega))
  |(apply zar [] [] hmix;decide+kernel)
  |(apply zab;(iterate 5 exact rfl);first|exact zas hT rfl rfl mem0 rfl rfl|exact zaq hT rfl rfl mem0 rfl)
  |(apply zab;(iterate 5 exact rfl);first|exact zas hT rfl rfl mem1 rfl rfl|exact zaq hT rfl rfl mem1 rfl)
  |(apply zab;(iterate 5 exact rfl);first|exact zas hT rfl rfl mem2 rfl rfl|exact zaq hT rfl rfl mem2 rfl)
  |(apply zau;(iterate 5 exact rfl);intro _)|(apply zac hT;(iterate 5 exact rfl);intro _)
  |(apply zaf;(iterate 2 exact rfl))|(apply zag;(iterate 2 exact rfl))
  |(apply zak;exact rfl;all_goals intro hb;all_goals(try simp only[hb]);all_goals(first|replace hb:=of_decide_eq_true hb|replace hb:=of_decide_eq_false hb|replace hb:=zao hb|replace hb:=zap hb|skip);all_goals(try(exfalso;omega)))
  |(apply zan;exact rfl;all_goals intro hb;all_goals(try simp only[hb]);all_goals(first|replace hb:=of_decide_eq_true hb|replace hb:=of_decide_eq_false hb|replace hb:=zao hb|replace hb:=zap hb|skip);all_goals(try(exfalso;omega))))
 apply ret1;exact rfl
 exact⟨rfl,dX⟩
end Go.Proofs.YteocfhdocpeokaaGreat
set_option linter.unusedSimpArgs false
set_option linter.unusedVariables false
namespace Go.Sl
open Go Go.RowKit Go.Sort Go.Proofs Go.Shelf
theorem zeX {α:Type}[Inhabited α]{enc:α→List Value}{k:Nat}(hk:∀x,(enc x).length=k)(d:Array α):(flatK enc k d).toList=d.toList.flatMap enc:=by
 apply List.ext_getElem?
 intro t
 have hl:=zcz (enc:=enc) hk d.toList
 by_cases ht:t<d.size*k
 ·have k0:0<k:=by
   rcases Nat.eq_zero_or_pos k with h|h
   ·subst h;simp at ht
   ·exact h
  have hi:t / k<d.size:=(Nat.div_lt_iff_lt_mul k0).2 ht
  have hx:d.toList[t / k]? =some d[t / k]! :=by
   rw[Array.getElem?_toList,getElem!_pos d _ hi];simp[hi]
  have e:=zdZ hk d.toList (t / k) (t%k) _ hx (Nat.mod_lt _ k0)
  rw[Nat.div_add_mod' t k]at e
  rw[e]
  have h1:=get_flatK enc k d t ht
  have hs:t<(flatK enc k d).size:=by simpa using ht
  rw[Array.getElem?_toList,Array.getElem?_eq_getElem hs,←getElem!_pos _ t hs,h1]
  have hm:t%k<(enc d[t / k]!).length:=by rw[hk];exact Nat.mod_lt _ k0
  rw[gge hm,getElem!_pos (enc d[t / k]!) (t%k) hm]
 ·rw[List.getElem?_eq_none (by simp;omega),List.getElem?_eq_none (by rw[hl];simp;omega)]
theorem zgy {α:Type}[Inhabited α]{d d':Array α}(h:PermIn 0 d.size d d'):d'.toList.Perm d.toList:=by
 obtain⟨h1,_,h3⟩:=h
 have e1:d'.extract 0 d.size=d':=by rw[←h1];simp
 have e2:d.extract 0 d.size=d:=by simp
 rw[e1,e2]at h3
 exact h3
theorem zfh {α:Type}[Inhabited α]{lt:α→α→Bool}{d':Array α}{n:Nat}(h:SortedIn lt 0 n d')(hn:d'.size=n):d'.toList.Pairwise fun a b=>lt b a=false:=by
 rw[List.pairwise_iff_getElem]
 intro i j hi hj hij
 have hj':j<d'.size:=by simpa using hj
 have:=h i j (Nat.zero_le _) hij (by omega)
 rw[getElem!_pos d' j hj',getElem!_pos d' i (by omega)]at this
 simpa using this
section
variable {P : Program} {W w : World} {F : List zah} {α : Type} [Inhabited α] {enc : α → List Value} {k : Nat}
theorem ziX {g m:Nat}{os:Array Obj}{cur:Array Value}{t:TypeId}{fr:Nat×Nat}(d:Array α)(hb:w.heap[g]? =some (.cells cur t fr)):
 (sortWorldK enc k w g 0 m d os).heap[g]? =some (.cells (putCells id 0 (flatK enc k d) cur) t fr):=by
 have hg:g<w.heap.size:=(Array.getElem?_eq_some_iff.1 hb).1
 unfold sortWorldK putRowK
 rw[Go.Sort.heap_grow_old _ _ (by simpa using hg)]
 simp[putRow,mapBlock,Sort.ahead,Array.getElem?_modify,hb,onCells]
theorem zfP {g m:Nat}{os:Array Obj}(d:Array α):w.grownBy (sortWorldK enc k w g 0 m d os) (some g):=by
 unfold sortWorldK putRowK
 refine⟨rfl,rfl,rfl,by simp,fun j hj hne=> ?_⟩
 rw[Go.Sort.heap_grow_old _ _ (by simpa using hj)]
 have:g≠j:=fun e=>hne (by rw[e])
 simp[putRow,mapBlock,Sort.ahead,Array.getElem?_modify,this]
theorem zj9 {g n c m:Nat}{t:TypeId}{os:Array Obj}{l:List α}(hk:∀x,(enc x).length=k)(h1:∀x,∀v∈enc x,v.oneCell'=true)(hn:l.length=n)(hw:Rep W (.own (some ⟨g,0,none⟩) n c t k (l.flatMap enc)::F) w)(d':Array α)(hd:d'.size=n):
 Rep W (.own (some ⟨g,0,none⟩) n c t k (d'.toList.flatMap enc)::F) (sortWorldK enc k w g 0 m d' os):=by
 have ho:=hw.holds _ mem0
 rcases ho.1.2 with ⟨hv,_⟩|⟨g',cap,cur,hv,hbb,hgb,hnc,hcm,hcs,htk⟩
 ·cases hv
 ·injection hv with hA _ hc
  injection hA with hA
  injection hA with hA _ _
  subst hA hc
  have hlen:(d'.toList.flatMap enc).length=n*k:=by rw[zcz hk];simp[hd]
  have hle:n*k≤cur.size:=by rw[hcs];exact Nat.mul_le_mul_right k hnc
  refine hw.change (zfP d') (fun j e=>by simp[zah.keys];exact(Option.some.inj e).symm) ⟨⟨hlen,.inr ⟨g,c,_,rfl,hbb,ziX d' hgb,hnc,hcm,by simp[putCells,hcs],?_⟩⟩,fun v hv=> ?_⟩ (fun j hj=>.inl (by simpa [zah.keys]using hj))
  ·rw[←zeX hk d']
   apply List.ext_getElem?
   intro j
   have hsz:(flatK enc k d').size=n*k:=by simp[hd]
   by_cases hj:j<n*k
   ·rw[List.getElem?_take_of_lt hj,Array.getElem?_toList,Array.getElem?_toList]
    have hjc:j<cur.size:=by omega
    have hjf:j<(flatK enc k d').size:=by omega
    simp[putCells,hjc,hjf]
    rw[if_pos (by rw[hd];exact hj),Array.getElem?_eq_getElem hjf,getElem!_pos _ j hjf]
   ·rw[List.getElem?_take_eq_none (by omega),List.getElem?_eq_none (by simp[hd];omega)]
  ·obtain⟨x,_,hx⟩:=List.mem_flatMap.1 hv
   exact h1 x v hx
theorem sort_holds {g n c:Nat}{t:TypeId}{l:List α}(hk:∀x,(enc x).length=k)(hn:l.length=n)(hw:Rep W (.own (some ⟨g,0,none⟩) n c t k (l.flatMap enc)::F) w):HoldsK enc k w g 0 l.toArray∧g<w.heap.size:=by
 have ho:=hw.holds _ mem0
 rcases ho.1.2 with ⟨hv,_⟩|⟨g',cap,cur,hv,hbb,hgb,hnc,hcm,hcs,htk⟩
 ·cases hv
 ·injection hv with hA _ hc
  injection hA with hA
  injection hA with hA _ _
  subst hA hc
  refine⟨fun j hj=> ?_,(Array.getElem?_eq_some_iff.1 hgb).1⟩
  have hj':j<n*k:=by simpa [hn]using hj
  refine⟨?_,by simp[World.frozen?,hgb]⟩
  have h2:(flatK enc k l.toArray).toList=l.flatMap enc:=by rw[zeX hk]
  have h3:(cur.toList.take (n*k))[j]? =((flatK enc k l.toArray).toList)[j]? :=by rw[htk,h2]
  rw[List.getElem?_take_of_lt hj',Array.getElem?_toList,Array.getElem?_toList]at h3
  simp only[World.cell?,hgb,Nat.zero_add,Option.isSome_none,Bool.false_eq_true,if_false]
  rw[h3,Array.getElem?_eq_getElem hj,getElem!_pos _ j hj]
  rfl
/-- **slices.SortFunc**, of a row of the call's own -/
theorem zlX {ρ:Ren}(L:SlLaysF0.n6 P ρ)(hf:zie P (ρ.f 6))(aE:∀w,(isAgg (ρ.t 24)).run P w=.ok true w)(zE:∀w,(Go.sizeOf (ρ.t 24)).run P w=.ok k w)(hk:∀x,(enc x).length=k)(h1:∀x,∀v∈enc x,v.oneCell'=true)(cf:α→α→Int)(hO:SWO (ltOf cf))(g:Nat)
 (eg:∀args w,(callFunc g args).run P w=.ok (.enter g args) w) (hcmp:∀(x y:α) (W:World),Calls P g #[.agg (enc x).toArray,.agg (enc y).toArray] W fun e w'=>e=.returned (.int .i64 (cf x y))∧∃q os',w'=grow (W.drewN q) os')
 (A:Option Addr)(c:Nat)(t:TypeId)(l:List α)(hb:l.length≤1000000):
 zaL P W (ρ.f 6) [.slice A l.length c,.func (.func g) #[] #[]] (.own A l.length c t k (l.flatMap enc)::F) (fun v h'=>v=.tuple #[]∧∃l':List α,l'.Perm l∧l'.Pairwise (fun a b=>ltOf cf b a=false)∧h'=.own A l'.length c t k (l'.flatMap enc)::F):=by
 refine⟨hf,fun w hw=> ?_⟩
 cases l with
 |nil=>exact(AnyF.slices_SortFunc_none L A c _ w).mono fun e w' ⟨he,hww⟩=>⟨_,_,he,⟨rfl,[],plr _,List.Pairwise.nil,rfl⟩,by rw[hww];exact hw⟩
 |cons x0 l0=>
  generalize hl:x0::l0=l at*
  have hpos:0<l.length:=by rw[←hl];simp
  obtain⟨g',hA⟩:=(hw.ownF mem0).at_ hpos
  subst hA
  obtain⟨hH,hblk⟩:=sort_holds hk rfl hw
  have hlays:CmpLays P g #[] enc k cf g' 0 l.toArray.size w:=fun m os dk _ x y=>by simpa using hcmp x y _
  have hcon:=AnyQ.slices_SortFunc L k aE zE enc hk h1 cf hO g #[] g' 0 c l.toArray w eg hlays hH hblk (by simp;omega)
  refine hcon.mono ?_
  rintro e w' ⟨rfl,d',n,os,hp,hs,rfl⟩
  have hd:d'.size=l.length:=by have:=hp.1;simpa using this
  refine⟨_,_,rfl,⟨rfl,d'.toList,by simpa using zgy hp,zfh hs (by simpa using hd),rfl⟩,?_⟩
  have:=zj9 (m:=n) (os:=os) hk h1 rfl hw d' hd
  simpa [hd]using this
end
end Go.Sl
namespace Go.Proofs.YteocfhdocpeokaaGreat
open Go.Shelf
def ziY :Go.Shelf.Ren:=⟨fun|6=>124|15=>167|14=>166|28=>205|29=>206|20=>197|21=>198|22=>199|23=>200|24=>201|25=>202|26=>203|27=>204|46=>220|47=>221|48=>222|49=>223|50=>224|57=>237|n=>n,fun|22=>150|24=>168|25=>200|3=>3|39=>130|0=>0|53=>268|55=>73|4=>4|46=>262|45=>261|50=>194|5=>5|9=>9|66=>289|70=>292|76=>301|77=>302|n=>n,fun|n=>n⟩
theorem znh :Go.Proofs.SlLaysF0.n6 Tryz.prog ziY:={
 mixed:=by kernel_rfl
 f6:=⟨Tryz.f124.name,by decide,Tryz.func124.trans (congrArg some (by kernel_rfl))⟩
 f14:=⟨Tryz.f166.name,by decide,Tryz.func166.trans (congrArg some (by kernel_rfl))⟩
 f15:=Tryz.func167.trans (congrArg some (by kernel_rfl))
 f20:=⟨Tryz.f197.name,by decide,Tryz.func197.trans (congrArg some (by kernel_rfl))⟩
 f21:=⟨Tryz.f198.name,by decide,Tryz.func198.trans (congrArg some (by kernel_rfl))⟩
 f22:=⟨Tryz.f199.name,by decide,Tryz.func199.trans (congrArg some (by kernel_rfl))⟩
 f23:=⟨Tryz.f200.name,by decide,Tryz.func200.trans (congrArg some (by kernel_rfl))⟩
 f24:=⟨Tryz.f201.name,by decide,Tryz.func201.trans (congrArg some (by kernel_rfl))⟩
 f25:=⟨Tryz.f202.name,by decide,Tryz.func202.trans (congrArg some (by kernel_rfl))⟩
 f26:=⟨Tryz.f203.name,by decide,Tryz.func203.trans (congrArg some (by kernel_rfl))⟩
 f27:=⟨Tryz.f204.name,by decide,Tryz.func204.trans (congrArg some (by kernel_rfl))⟩
 f28:=Tryz.func205.trans (congrArg some (by kernel_rfl))
 f29:=Tryz.func206.trans (congrArg some (by kernel_rfl))
 f46:=⟨Tryz.f220.name,by decide,Tryz.func220.trans (congrArg some (by kernel_rfl))⟩
 f47:=Tryz.func221.trans (congrArg some (by kernel_rfl))
 f48:=Tryz.func222.trans (congrArg some (by kernel_rfl))
 f49:=⟨Tryz.f223.name,by decide,Tryz.func223.trans (congrArg some (by kernel_rfl))⟩
 f50:=⟨Tryz.f224.name,by decide,Tryz.func224.trans (congrArg some (by kernel_rfl))⟩
 f57:=⟨Tryz.f237.name,by decide,Tryz.func237.trans (congrArg some (by kernel_rfl))⟩
 t0:=Tryz.underlying0
 a0:=Tryz.isAgg0
 z0:=Tryz.sizeOf0
 v0:=Tryz.zeroValue0
 t3:=Tryz.underlying3
 a3:=Tryz.isAgg3
 z3:=Tryz.sizeOf3
 v3:=Tryz.zeroValue3
 t4:=Tryz.underlying4
 a4:=Tryz.isAgg4
 z4:=Tryz.sizeOf4
 v4:=Tryz.zeroValue4
 t5:=Tryz.underlying5
 a5:=Tryz.isAgg5
 z5:=Tryz.sizeOf5
 v5:=Tryz.zeroValue5
 t9:=Tryz.underlying9
 a9:=Tryz.isAgg9
 z9:=Tryz.sizeOf9
 v9:=Tryz.zeroValue9
 t22:=Tryz.underlying150
 a22:=Tryz.isAgg150
 z22:=Tryz.sizeOf150
 v22:=Tryz.zeroValue150
 t25:=Tryz.underlying200
 a25:=Tryz.isAgg200
 z25:=Tryz.sizeOf200
 v25:=Tryz.zeroValue200
 t39:=Tryz.underlying130
 a39:=Tryz.isAgg130
 z39:=Tryz.sizeOf130
 v39:=Tryz.zeroValue130
 t45:=Tryz.underlying261
 a45:=Tryz.isAgg261
 z45:=Tryz.sizeOf261
 v45:=Tryz.zeroValue261
 t46:=Tryz.underlying262
 a46:=Tryz.isAgg262
 z46:=Tryz.sizeOf262
 v46:=Tryz.zeroValue262
 t50:=Tryz.underlying194
 a50:=Tryz.isAgg194
 z50:=Tryz.sizeOf194
 v50:=Tryz.zeroValue194
 t53:=Tryz.underlying268
 a53:=Tryz.isAgg268
 z53:=Tryz.sizeOf268
 v53:=Tryz.zeroValue268
 t55:=Tryz.underlying73
 a55:=Tryz.isAgg73
 z55:=Tryz.sizeOf73
 v55:=Tryz.zeroValue73
 t66:=Tryz.underlying289
 a66:=Tryz.isAgg289
 z66:=Tryz.sizeOf289
 v66:=Tryz.zeroValue289
 t70:=Tryz.underlying292
 a70:=Tryz.isAgg292
 z70:=Tryz.sizeOf292
 v70:=Tryz.zeroValue292
 t76:=Tryz.underlying301
 a76:=Tryz.isAgg301
 z76:=Tryz.sizeOf301
 v76:=Tryz.zeroValue301
 t77:=Tryz.underlying302
 a77:=Tryz.isAgg302
 z77:=Tryz.sizeOf302
 v77:=Tryz.zeroValue302}
end Go.Proofs.YteocfhdocpeokaaGreat
set_option linter.unusedSimpArgs false
set_option linter.unusedVariables false
namespace Go.Proofs.YteocfhdocpeokaaGreat
open Go Go.Sl Go.RowKit Go.Sort
theorem zlk (s a b:Int)(W:World):Calls Tryz.prog 168 #[.int .i64 s,.int .i64 a,.int .i64 b] W fun e w'=>e=.returned (.bool (zbn s a b))∧w'=W:=by
 go_enter Tryz.func168,Tryz.ntmps168
 go_wp2
 all_goals
  go_ret
  refine⟨?_,rfl⟩
  simp[zbn, *]
theorem zlY (x:Int)(W:World):Calls Tryz.prog 193 #[.int .i64 x] W fun e w'=>e=.returned (.bool false)∧w'=W:=by
 go_enter Tryz.func193,Tryz.ntmps193
 go_wp2
 all_goals
  go_ret
  exact⟨by simp,rfl⟩
theorem cmpK (x y:Int)(W:World):Calls Tryz.prog 161 #[.int .i64 x,.int .i64 y] W fun e w'=>e=.returned (.int .i64 (cmpI x y))∧w'=W:=by
 have h1:=fun z W=>zlY z W
 go_enter Tryz.func161,Tryz.ntmps161
 go_wp2_with (go_at_call 193;refine(h1 _ _).mono ?_;rintro e w' ⟨rfl,rfl⟩)
 all_goals
  go_ret
  refine⟨?_,rfl⟩
  simp[cmpI, *]
  try(split<;>(try split)<;>omega)
theorem zlZ (a b:zav)(W:World):Calls Tryz.prog 125 #[.agg a.enc.toArray,.agg b.enc.toArray] W fun e w'=>e=.returned (.int .i64 (cfO a b))∧∃q os',w'=grow (W.drewN q) os':=by
 obtain⟨a0,a1,a2,a3,a4,a5⟩:=a
 obtain⟨b0,b1,b2,b3,b4,b5⟩:=b
 have h1:=fun s x y W=>zlk s x y W
 have h2:=fun x y W=>cmpK x y W
 unfold cfO
 dsimp only[zav.enc]
 go_enter Tryz.func125,Tryz.ntmps125
 go_wp2_with (first|(go_at_call 168;refine(h1 _ _ _ _).mono ?_;rintro e w' ⟨rfl,rfl⟩)|(go_at_call 161;refine(h2 _ _ _).mono ?_;rintro e w' ⟨rfl,rfl⟩))
 all_goals
  go_ret
  refine⟨?_,0,_,by rw[alloc_eq_grow,alloc_eq_grow,grow_grow];rfl⟩
  simp[*]
end Go.Proofs.YteocfhdocpeokaaGreat
set_option linter.unusedSimpArgs false
set_option linter.unusedVariables false
namespace Go.Proofs.YteocfhdocpeokaaGreat
open Go Go.Sl Go.RowKit
attribute [local irreducible] AW ES EP Ld RetQ
set_option maxRecDepth 100000
theorem zl0 {P:Program}{W:World}{N:Nat}{env:Env}{h:List zah}{Q:Exit→Env→List zah→Prop}{c:Code}{A:Option Addr}{n cc k:Nat}{e:TypeId}{cs:List Value}(hm:zah.own A n cc e k cs∈h)
 (hc:OwnF A n cc k cs→AW P W N c env h Q):AW P W N c env h Q:=zbG fun w hw=>⟨h,hw,hc (hw.ownF hm)⟩
theorem zha {α:Type}{p:α→Prop}:∀(l:List α),(∀x∈l,p x)→∃ls:List {x // p x},ls.map Subtype.val=l
 |[],_=>⟨[],rfl⟩
 |x::l,h=>by
  obtain⟨ls,hl⟩:=zha l (fun y hy=>h y (List.mem_cons_of_mem _ hy))
  exact⟨⟨x,h x List.mem_cons_self⟩::ls,by simp[hl]⟩
theorem zl1 {s:Int}{a b:zav}(ha:a.side=s):(cfO a b<0)↔(if s=1 then a.price>b.price∨(a.price=b.price∧a.seq<b.seq)else if s=2 then a.price<b.price∨(a.price=b.price∧a.seq<b.seq)else a.seq<b.seq):=by
 unfold cfO zbn cmpI
 subst ha
 by_cases h1:a.side=1
 ·simp only[h1,if_true]
  simp
  split<;>(try split)<;>(try split)<;>(try split)<;>omega
 ·by_cases h2:a.side=2
  ·simp only[h2]
   simp
   split<;>(try split)<;>(try split)<;>(try split)<;>omega
  ·simp[h1,h2]
   split<;>(try split)<;>omega
abbrev OrdS (s:Int):={o:zav // o.side=s}
instance instOrdS (s:Int):Inhabited (OrdS s):=⟨⟨⟨0,0,0,s,0,0⟩,rfl⟩⟩
def encS {s:Int}(x:OrdS s):List Value:=x.1.enc
def cfS {s:Int}(x y:OrdS s):Int:=cfO x.1 y.1
theorem ltS {s:Int}(x y:OrdS s):ltOf cfS x y=true↔(if s=1 then x.1.price>y.1.price∨(x.1.price=y.1.price∧x.1.seq<y.1.seq)else if s=2 then x.1.price<y.1.price∨(x.1.price=y.1.price∧x.1.seq<y.1.seq)else x.1.seq<y.1.seq):=by
 unfold ltOf
 rw[decide_eq_true_iff]
 exact zl1 x.2
theorem swoS (s:Int):Sort.SWO (ltOf (cfS (s:=s))) where
 irrefl x:=by
  cases h:ltOf cfS x x
  ·rfl
  ·rw[ltS]at h;exfalso;split at h<;>(try split at h)<;>omega
 trans x y z h1 h2:=by
  rw[ltS]at*
  split<;>(try split)<;>simp_all<;>omega
 ntrans x y z h1 h2:=by
  cases h:ltOf cfS x z
  ·rfl
  ·exfalso
   have k1:¬ltOf cfS x y=true:=by rw[h1];simp
   have k2:¬ltOf cfS y z=true:=by rw[h2];simp
   rw[ltS]at h k1 k2
   split at h<;>(try split at h)<;>simp_all<;>omega
theorem ziZ (W:World)(s:Int)(F:List zah)(A:Option Addr)(c:Nat)(l:List zav)(hl:∀o∈l,o.side=s)(hb:l.length≤1000000):
 zaL Tryz.prog W 124 [.slice A l.length c,.func (.func 125) #[] #[]] (.own A l.length c 168 6 (l.flatMap zav.enc)::F)
  (fun v h'=>v=.tuple #[]∧∃l':List zav,l'.Perm l∧l'.Pairwise (fun a b=>¬cfO b a<0)∧h'=.own A l'.length c 168 6 (l'.flatMap zav.enc)::F):=by
 obtain⟨ls,rfl⟩:=zha (p:=fun o=>o.side=s) l hl
 have e:∀m:List (OrdS s),(m.map Subtype.val).flatMap zav.enc=m.flatMap encS:=fun m=>by rw[List.flatMap_map];rfl
 have hf:zie Tryz.prog 124 :=⟨_,Tryz.func124,rfl,rfl⟩
 have eg:∀args w,(callFunc 125 args).run Tryz.prog w=.ok (.enter 125 args) w:=enters_of Tryz.func125 (by kernel_rfl) rfl
 have:=zlX (P:= Tryz.prog) (W:=W) (F:=F) (enc:=encS (s:=s)) (k:=6) znh hf Tryz.isAgg168 Tryz.sizeOf168 (fun x=>x.1.enc_len) (fun x=>x.1.enc_one) cfS (swoS s) 125 eg (fun x y W=>zlZ x.1 y.1 W) A c 168 ls (by simpa using hb)
 rw[llm,e]
 refine zaL.mono this ?_
 rintro v h' ⟨rfl,l',hp,hs,rfl⟩
 refine⟨rfl,l'.map Subtype.val,hp.map _,?_,by rw[llm,e]⟩
 rw[List.pairwise_map]
 exact hs.imp (fun{a b} hab=>of_decide_eq_false hab)
theorem zi0 (W:World)(h:List zah)(p:Nat)(A:Option Addr)(c:Nat)(l:List zav)(s:Int)(m1:zah.blk p 152 [.slice A l.length c]∈h)(m2:zah.own A l.length c 168 6 (l.flatMap zav.enc)∈h)(hb:l.length≤1000000)(hu:zdf l)(hv:∀o∈l,isB o.side=true):
 zaL Tryz.prog W 82 [.pointer (some ⟨p,0,none⟩),.int .i64 s] h
  (fun v h'=>∃A' c',v=.slice A' (zbo s l).length c'∧h'=.own A' (zbo s l).length c' 168 6 ((zbo s l).flatMap zav.enc)::h∧OwnF A' (zbo s l).length c' 6 ((zbo s l).flatMap zav.enc)):=by
 refine zaL.dropF ?_
 refine zaA Tryz.func82 rfl rfl Tryz.results82 Tryz.ntmps82 rfl rfl ?_
 refine zim m2 (fun hl hnc hcc hsome hnone hone=> ?_)
 have hr:zaD W h A l.length 6 (l.flatMap zav.enc):=zaD.own m2 hl hone
 repeat' (first
  |apply zaz|apply zaa|apply zay|apply zal|apply zam|apply zae|apply zaw
  |(apply zai hT;(iterate 4 exact rfl))|(apply zaj;(iterate 3 exact rfl))|(apply zad;(iterate 2 exact rfl))
  |(apply zax hT;(iterate 4 exact rfl);(iterate 2 omega))
  |(apply zar [] [] hmix;decide+kernel)
  |(apply zab;(iterate 5 exact rfl);first|exact zas hT rfl rfl mem0 rfl rfl|exact zaq hT rfl rfl mem0 rfl)
  |(apply zab;(iterate 5 exact rfl);first|exact zas hT rfl rfl mem1 rfl rfl|exact zaq hT rfl rfl mem1 rfl)
  |(apply zab;(iterate 5 exact rfl);first|exact zas hT rfl rfl mem2 rfl rfl|exact zaq hT rfl rfl mem2 rfl)
  |(apply zab;(iterate 5 exact rfl);first|exact zas hT rfl rfl m1 rfl rfl|exact zaq hT rfl rfl m1 rfl)
  |(apply zab;(iterate 5 exact rfl);first|exact zas hT rfl rfl (List.mem_cons_of_mem _ m1) rfl rfl|exact zaq hT rfl rfl (List.mem_cons_of_mem _ m1) rfl)
  |(apply zau;(iterate 5 exact rfl);intro _)|(apply zac hT;(iterate 5 exact rfl);intro _)
  |(apply zaf;(iterate 2 exact rfl))|(apply zag;(iterate 2 exact rfl))
  |(apply zak;exact rfl;all_goals intro hb;all_goals(try simp only[hb]);all_goals(first|replace hb:=of_decide_eq_true hb|replace hb:=of_decide_eq_false hb|replace hb:=zao hb|replace hb:=zap hb|skip);all_goals(try(exfalso;omega)))
  |(apply zan;exact rfl;all_goals intro hb;all_goals(try simp only[hb]);all_goals(first|replace hb:=of_decide_eq_true hb|replace hb:=of_decide_eq_false hb|replace hb:=zao hb|replace hb:=zap hb|skip);all_goals(try(exfalso;omega))))
 refine zbG (fun w hw=>⟨_,hw.own_nil 168 6,?_⟩)
 have hml:∀k,((l.take k).filter (za7 s)).length≤k:=fun k=>by
  have:=List.length_filter_le (za7 s) (l.take k);simp at this;omega
 refine zds (α:=Nat×Option Addr×Nat) (E:=fun x=>[(1,.int .i64 s),(5,.slice x.2.1 ((l.take x.1).filter (za7 s)).length x.2.2),(13,.slice A l.length c),(14,.int .i64 l.length),(15,.int .i64 x.1)])
  (H:=fun x=>.own x.2.1 ((l.take x.1).filter (za7 s)).length x.2.2 168 6 (((l.take x.1).filter (za7 s)).flatMap zav.enc)::h) (μ:=fun x=>l.length - x.1)
  (S:=fun x=>x.1≤l.length) (0,none,0) (J:=[]) (Nat.zero_le _) ⟨rfl,rfl,rfl,rfl,rfl,trivial⟩ (plr _) ?_
 rintro⟨k,A5,c5⟩ hk
 dsimp only at hk ⊢
 have hmk:=hml k
 by_cases hlt:k<l.length
 ·obtain⟨x,hx⟩:∃x,l[k]? =some x:=⟨l[k]'(by omega),gge (by omega)⟩
  have hx2:l[(k:Int).toNat]? =some x:=by simpa using hx
  obtain⟨g,hA⟩:=hsome (by omega)
  have hA2:A.isSome=true:=by rw[hA];rfl
  have hd1:decide ((k:Int)<(l.length:Int))=true:=by simp;omega
  have hrc:=fun X=>hr.cons (c:=X)
  cases hlv:za7 s x
  ·have hne:¬x.side=s:=by simpa [za7]using hlv
   have hs1:(l.take (k+1)).filter (za7 s)=(l.take k).filter (za7 s):=by
    rw[List.take_add_one,hx,List.filter_append];simp[hlv]
   repeat' (first
    |apply zaz|apply zaa|apply zay|apply zal|apply zam|apply zae|apply zaw
    |(apply zai hT;(iterate 4 exact rfl))|(apply zaj;(iterate 3 exact rfl))|(apply zad;(iterate 2 exact rfl))
    |(apply zax hT;(iterate 4 exact rfl);(iterate 2 omega))
    |(apply zar [] [] hmix;decide+kernel)
    |(apply zaU hT;(iterate 8 exact rfl);(iterate 2 omega);exact hA2)
    |(apply zab;(iterate 5 exact rfl);exact zaY hT rfl rfl (hrc _) zav.enc_len rfl hx2 rfl)
    |(apply zac hT;(iterate 5 exact rfl);intro g7)
    |(apply zaP hT;(iterate 6 exact rfl);exact sel0;(iterate 3 exact rfl);exact Nat.le_of_ble_eq_true rfl)
    |(apply zab;(iterate 5 exact rfl);first|exact zas hT rfl rfl mem0 rfl rfl|exact zaq hT rfl rfl mem0 rfl)
    |(apply zab;(iterate 5 exact rfl);first|exact zas hT rfl rfl mem1 rfl rfl|exact zaq hT rfl rfl mem1 rfl)
    |(apply zab;(iterate 5 exact rfl);first|exact zas hT rfl rfl mem2 rfl rfl|exact zaq hT rfl rfl mem2 rfl)
    |(apply zau;(iterate 5 exact rfl);intro _)|(apply zac hT;(iterate 5 exact rfl);intro _)
    |(apply zaf;(iterate 2 exact rfl))|(apply zag;(iterate 2 exact rfl))
    |(apply zak;exact rfl;all_goals intro hb;all_goals(try simp only[hb]);all_goals(first|replace hb:=of_decide_eq_true hb|replace hb:=of_decide_eq_false hb|replace hb:=zao hb|replace hb:=zap hb|skip);all_goals(try(exfalso;omega)))
    |(apply zan;exact rfl;all_goals intro hb;all_goals(try simp only[hb]);all_goals(first|replace hb:=of_decide_eq_true hb|replace hb:=of_decide_eq_false hb|replace hb:=zao hb|replace hb:=zap hb|skip);all_goals(try(exfalso;omega))))
   all_goals first
    |(exfalso;omega)
    |(refine zaM (k+1,A5,c5) (by dsimp only;omega) (by dsimp only;omega) ⟨rfl,by dsimp only;rw[hs1];rfl,rfl,rfl,rfl,trivial⟩ ?_
      dsimp only
      rw[hs1]
      exact zcp zbJ)
  ·have hne:x.side=s:=by simpa [za7]using hlv
   have hs1:(l.take (k+1)).filter (za7 s)=(l.take k).filter (za7 s)++[x]:=by
    rw[List.take_add_one,hx,List.filter_append];simp[hlv]
   repeat' (first
    |apply zaz|apply zaa|apply zay|apply zal|apply zam|apply zae|apply zaw
    |(apply zai hT;(iterate 4 exact rfl))|(apply zaj;(iterate 3 exact rfl))|(apply zad;(iterate 2 exact rfl))
    |(apply zax hT;(iterate 4 exact rfl);(iterate 2 omega))
    |(apply zar [] [] hmix;decide+kernel)
    |(apply zaU hT;(iterate 8 exact rfl);(iterate 2 omega);exact hA2)
    |(apply zab;(iterate 5 exact rfl);exact zaY hT rfl rfl (hrc _) zav.enc_len rfl hx2 rfl)
    |(apply zac hT;(iterate 5 exact rfl);intro g7)
    |(apply zaP hT;(iterate 6 exact rfl);exact sel0;(iterate 3 exact rfl);exact Nat.le_of_ble_eq_true rfl)
    |(apply zaI hT;(iterate 12 exact rfl);intro g)
    |(apply za2 hT;(iterate 10 exact rfl);(first|exact sel0|exact sel1|exact selS sel1|exact selS (selS sel1)|exact selS (selS (selS sel1))|exact selS (selS (selS (selS sel1)))|exact selS (selS (selS (selS (selS sel1))))|exact selS (selS (selS (selS (selS (selS sel1))))));exact zaD.own mem0 rfl (zav.enc_one x);omega;(show(_:Nat)*48≤_;omega);intro A' c')
    |(apply zab;(iterate 5 exact rfl);first|exact zas hT rfl rfl mem0 rfl rfl|exact zaq hT rfl rfl mem0 rfl)
    |(apply zab;(iterate 5 exact rfl);first|exact zas hT rfl rfl mem1 rfl rfl|exact zaq hT rfl rfl mem1 rfl)
    |(apply zab;(iterate 5 exact rfl);first|exact zas hT rfl rfl mem2 rfl rfl|exact zaq hT rfl rfl mem2 rfl)
    |(apply zau;(iterate 5 exact rfl);intro _)|(apply zac hT;(iterate 5 exact rfl);intro _)
    |(apply zaf;(iterate 2 exact rfl))|(apply zag;(iterate 2 exact rfl))
    |(apply zak;exact rfl;all_goals intro hb;all_goals(try simp only[hb]);all_goals(first|replace hb:=of_decide_eq_true hb|replace hb:=of_decide_eq_false hb|replace hb:=zao hb|replace hb:=zap hb|skip);all_goals(try(exfalso;omega)))
    |(apply zan;exact rfl;all_goals intro hb;all_goals(try simp only[hb]);all_goals(first|replace hb:=of_decide_eq_true hb|replace hb:=of_decide_eq_false hb|replace hb:=zao hb|replace hb:=zap hb|skip);all_goals(try(exfalso;omega))))
   all_goals first
    |(exfalso;omega)
    |(refine zaM (k+1,A',c') (by dsimp only;omega) (by dsimp only;omega) ⟨rfl,by dsimp only;rw[hs1,lla];rfl,rfl,rfl,rfl,trivial⟩ ?_
      dsimp only
      rw[hs1,lla,List.flatMap_append]
      apply zbr;(first|exact sel0|exact sel1|exact selS sel1|exact selS (selS sel1)|exact selS (selS (selS sel1))|exact selS (selS (selS (selS sel1)))|exact selS (selS (selS (selS (selS sel1))))|exact selS (selS (selS (selS (selS (selS sel1))))))
      exact dX)
 ·obtain rfl:k=l.length:=by omega
  have hd1:decide ((l.length:Int)<(l.length:Int))=false:=by simp
  rw[List.take_length]at hmk ⊢
  have hside:∀o∈l.filter (za7 s),o.side=s:=fun o ho=>by simpa [za7]using (List.mem_filter.1 ho).2
  have hsort:=fun A5 c5=>ziZ W s h A5 c5 (l.filter (za7 s)) hside (by omega)
  have hfin:∀m:List zav,m.Perm (l.filter (za7 s))→m.Pairwise (fun a b=>¬cfO b a<0)→m=zbo s l:=fun m hp hs=>zgx hu hv hp hs
  have hlen:(zbo s l).length=(l.filter (za7 s)).length:=(zbC s l).length_eq
  repeat' (first
   |apply zaz|apply zaa|apply zay|apply zal|apply zam|apply zae|apply zaw
   |(apply zai hT;(iterate 4 exact rfl))|(apply zaj;(iterate 3 exact rfl))|(apply zad;(iterate 2 exact rfl))
   |(apply zax hT;(iterate 4 exact rfl);(iterate 2 omega))
   |(apply zar [] [] hmix;decide+kernel)
   |(apply zjR (hs:=(hsort _ _));(iterate 6 exact rfl);(rintro _ _ ⟨rfl,m,hp,hs,rfl⟩;obtain rfl:=hfin m hp hs))
   |(apply zaV (hs:=(hsort _ _));(iterate 7 exact rfl);(rintro _ _ ⟨rfl,m,hp,hs,rfl⟩;obtain rfl:=hfin m hp hs))
   |(apply zab;(iterate 5 exact rfl);first|exact zas hT rfl rfl mem0 rfl rfl|exact zaq hT rfl rfl mem0 rfl)
   |(apply zab;(iterate 5 exact rfl);first|exact zas hT rfl rfl mem1 rfl rfl|exact zaq hT rfl rfl mem1 rfl)
   |(apply zab;(iterate 5 exact rfl);first|exact zas hT rfl rfl mem2 rfl rfl|exact zaq hT rfl rfl mem2 rfl)
   |(apply zau;(iterate 5 exact rfl);intro _)|(apply zac hT;(iterate 5 exact rfl);intro _)
   |(apply zaf;(iterate 2 exact rfl))|(apply zag;(iterate 2 exact rfl))
   |(apply zak;exact rfl;all_goals intro hb;all_goals(try simp only[hb]);all_goals(first|replace hb:=of_decide_eq_true hb|replace hb:=of_decide_eq_false hb|replace hb:=zao hb|replace hb:=zap hb|skip);all_goals(try(exfalso;omega)))
   |(apply zan;exact rfl;all_goals intro hb;all_goals(try simp only[hb]);all_goals(first|replace hb:=of_decide_eq_true hb|replace hb:=of_decide_eq_false hb|replace hb:=zao hb|replace hb:=zap hb|skip);all_goals(try(exfalso;omega))))
  apply ret1;exact rfl
  refine⟨_,zbJ,fun w hw=>⟨A5,c5,by rw[hlen],rfl,hw.ownF mem0⟩⟩
/-! ### levels -/
theorem zhA {o:List zav}(ho:∀x∈o,1≤x.left∧x.left≤1000000)(hb:o.length≤1000000):∀v∈za4 o,1≤v.qty∧v.qty≤1000000*o.length:=by
 have key:∀(o:List zav) (v:List Lvl) (n:Nat),(∀x∈o,1≤x.left∧x.left≤1000000)→(∀y∈v,1≤y.qty∧y.qty≤1000000*(n:Int))→∀y∈o.foldl zcM v,1≤y.qty∧y.qty≤1000000*((n+o.length:Nat):Int):=by
  intro o
  induction o with
  |nil=>intro v n _ hv y hy;simpa using hv y hy
  |cons x o ih=>
   intro v n ho hv y hy
   rw[List.foldl_cons]at hy
   have hx:=ho x List.mem_cons_self
   have:=ih (zcM v x) (n+1) (fun z hz=>ho z (List.mem_cons_of_mem _ hz)) (fun z hz=> ?_) y hy
   ·rw[List.length_cons]
    have e:((n+1+o.length:Nat):Int)=((n+(o.length+1):Nat):Int):=by omega
    rw[e]at this;exact this
   ·unfold zcM at hz
    have hmono:∀y∈v,1≤y.qty∧y.qty≤1000000*((n+1:Nat):Int):=fun y hy=>by have:=hv y hy;omega
    split at hz
    ·rename_i w hw
     have hwv:w∈v:=List.mem_of_getLast? hw
     split at hz
     ·rcases lma.1 hz with h|h
      ·exact hmono z ((List.dropLast_sublist v).subset h)
      ·rw[lms.1 h];have:=hv w hwv;dsimp only;omega
     ·rcases lma.1 hz with h|h
      ·exact hmono z h
      ·rw[lms.1 h];dsimp only;omega
    ·rw[lms.1 hz];dsimp only;omega
 intro v hv
 have:=key o [] 0 ho (fun y hy=>by cases hy) v hv
 simpa using this
theorem zhB {v:List Lvl}{x:Lvl}{o:zav}(h:v[v.length - 1]? =some x)(hp:x.price=o.price):zcM v o=v.set (v.length - 1) ⟨x.price,x.qty+o.left⟩:=by
 have hl:v.getLast? =some x:=by rw[List.getLast?_eq_getElem?];exact h
 unfold zcM
 rw[hl]
 dsimp only
 rw[if_pos hp]
 have hne:v≠[]:=fun e=>by rw[e]at h;simp at h
 obtain⟨u,y,rfl⟩:=List.eq_nil_or_concat v |>.resolve_left hne
 simp
theorem zfQ {v:List Lvl}{o:zav}(h:∀x,v[v.length - 1]? =some x→x.price≠o.price):zcM v o=v++[⟨o.price,o.left⟩]:=by
 unfold zcM
 split
 ·rename_i x hx
  rw[List.getLast?_eq_getElem?]at hx
  rw[if_neg (h x hx)]
 ·rename_i hx
  rw[List.getLast?_eq_none_iff]at hx
  rw[hx];rfl
theorem zei (W:World)(h:List zah)(p:Nat)(A:Option Addr)(c:Nat)(l:List zav)(s:Int)(m1:zah.blk p 152 [.slice A l.length c]∈h)(m2:zah.own A l.length c 168 6 (l.flatMap zav.enc)∈h)(hb:l.length≤1000000)(hu:zdf l)(hv:∀o∈l,isB o.side=true)(hq:∀o∈l,1≤o.left∧o.left≤1000000):
 zaL Tryz.prog W 70 [.pointer (some ⟨p,0,none⟩),.int .i64 s] h
  (fun v h'=>∃A' c',v=.slice A' (za4 (zbo s l)).length c'∧h'=.own A' (za4 (zbo s l)).length c' 134 2 ((za4 (zbo s l)).flatMap Lvl.enc)::h∧OwnF A' (za4 (zbo s l)).length c' 2 ((za4 (zbo s l)).flatMap Lvl.enc)):=by
 refine zaL.dropF ?_
 refine zaA Tryz.func70 rfl rfl Tryz.results70 Tryz.ntmps70 rfl rfl ?_
 have hside:=zi0 W h p A c l s m1 m2 hb hu hv
 have hsl:=zfN s l
 have hsq:∀o∈zbo s l,1≤o.left∧o.left≤1000000:=fun o ho=>hq o (zca ho).1
 generalize zbo s l=sl at hside hsl hsq
 repeat' (first
  |apply zaz|apply zaa|apply zay|apply zal|apply zam|apply zae|apply zaw
  |(apply zai hT;(iterate 4 exact rfl))|(apply zaj;(iterate 3 exact rfl))|(apply zad;(iterate 2 exact rfl))
  |(apply zax hT;(iterate 4 exact rfl);(iterate 2 omega))
  |(apply zar [] [] hmix;decide+kernel)
  |(apply zaV (hs:=hside);(iterate 7 exact rfl);rintro _ _ ⟨AS,cS,rfl,rfl,hfS⟩)
  |(apply zab;(iterate 5 exact rfl);first|exact zas hT rfl rfl mem0 rfl rfl|exact zaq hT rfl rfl mem0 rfl)
  |(apply zab;(iterate 5 exact rfl);first|exact zas hT rfl rfl mem1 rfl rfl|exact zaq hT rfl rfl mem1 rfl)
  |(apply zab;(iterate 5 exact rfl);first|exact zas hT rfl rfl mem2 rfl rfl|exact zaq hT rfl rfl mem2 rfl)
  |(apply zau;(iterate 5 exact rfl);intro _)|(apply zac hT;(iterate 5 exact rfl);intro _)
  |(apply zaf;(iterate 2 exact rfl))|(apply zag;(iterate 2 exact rfl))
  |(apply zak;exact rfl;all_goals intro hb;all_goals(try simp only[hb]);all_goals(first|replace hb:=of_decide_eq_true hb|replace hb:=of_decide_eq_false hb|replace hb:=zao hb|replace hb:=zap hb|skip);all_goals(try(exfalso;omega)))
  |(apply zan;exact rfl;all_goals intro hb;all_goals(try simp only[hb]);all_goals(first|replace hb:=of_decide_eq_true hb|replace hb:=of_decide_eq_false hb|replace hb:=zao hb|replace hb:=zap hb|skip);all_goals(try(exfalso;omega))))
 refine zbG (fun w hw=>⟨_,hw.own_nil 134 2,?_⟩)
 have hll:∀k,k≤sl.length→(za4 (sl.take k)).length≤k:=by
  intro k
  induction k with
  |zero=>intro _;simp[za4]
  |succ k ih=>
   intro hk
   obtain⟨x,hx⟩:∃x,sl[k]? =some x:=⟨sl[k]'(by omega),gge (by omega)⟩
   rw[List.take_add_one,hx]
   have:=ziW (za4 (sl.take k)) x
   have:=ih (by omega)
   rw[show(some x).toList=[x]from rfl,zeh];omega
 refine zds (α:=Nat×Option Addr×Nat) (E:=fun x=>[(5,.slice x.2.1 (za4 (sl.take x.1)).length x.2.2),(11,.slice AS sl.length cS),(12,.int .i64 sl.length),(13,.int .i64 x.1)])
  (H:=fun x=>.own x.2.1 (za4 (sl.take x.1)).length x.2.2 134 2 ((za4 (sl.take x.1)).flatMap Lvl.enc)::.own AS sl.length cS 168 6 (sl.flatMap zav.enc)::h) (μ:=fun x=>sl.length - x.1)
  (S:=fun x=>x.1≤sl.length) (0,none,0) (J:=[]) (Nat.zero_le _) ⟨rfl,rfl,rfl,rfl,trivial⟩ (plr _) ?_
 rintro⟨k,A5,c5⟩ hk
 dsimp only at hk ⊢
 refine zl0 mem0 (fun hf5=> ?_)
 have hmk:=hll k hk
 by_cases hlt:k<sl.length
 ·obtain⟨x,hx⟩:∃x,sl[k]? =some x:=⟨sl[k]'(by omega),gge (by omega)⟩
  have hx2:sl[(k:Int).toNat]? =some x:=by simpa using hx
  have hA:=hfS.some_ (by omega)
  have hd1:decide ((k:Int)<(sl.length:Int))=true:=by simp;omega
  have hstep:za4 (sl.take (k+1))=zcM (za4 (sl.take k)) x:=by
   rw[List.take_add_one,hx,show(some x).toList=[x]from rfl,zeh]
  have hqx:=hsq x (mog hx)
  have hqv:=zhA (o:=sl.take k) (fun o ho=>hsq o (List.mem_of_mem_take ho)) (by simp;omega)
  have htl:((sl.take k).length:Int)≤1000000:=by simp;omega
  generalize hvl:za4 (sl.take k)=v at hf5 hmk hstep hqv ⊢
  by_cases h0:v.length=0
  ·have hv0:v=[]:=List.eq_nil_of_length_eq_zero h0
   have hadd:zcM v x=v++[⟨x.price,x.left⟩]:=zfQ (fun y hy=>by rw[hv0]at hy;simp at hy)
   have hd2:decide (((v.length:Nat):Int)>0)=false:=by simp;omega
   repeat' (first
    |apply zaz|apply zaa|apply zay|apply zal|apply zam|apply zae|apply zaw
    |(apply zai hT;(iterate 4 exact rfl))|(apply zaj;(iterate 3 exact rfl))|(apply zad;(iterate 2 exact rfl))
    |(apply zax hT;(iterate 4 exact rfl);(iterate 2 omega))
    |(apply zar [] [] hmix;decide+kernel)
    |(apply zaU hT;(iterate 8 exact rfl);(iterate 2 omega);exact hA)
    |(apply zab;(iterate 5 exact rfl);exact zaY hT rfl rfl (hfS.reads mem1) zav.enc_len rfl hx2 rfl)
    |(apply zac hT;(iterate 5 exact rfl);intro g7)
    |(apply zaP hT;(iterate 6 exact rfl);exact sel0;(iterate 3 exact rfl);exact Nat.le_of_ble_eq_true rfl)
    |(apply zc8 hT;(iterate 4 exact rfl))
    |(apply zaI hT;(iterate 12 exact rfl);intro g)
    |(apply za2 hT;(iterate 10 exact rfl);(first|exact sel0|exact sel1|exact selS sel1|exact selS (selS sel1)|exact selS (selS (selS sel1))|exact selS (selS (selS (selS sel1)))|exact selS (selS (selS (selS (selS sel1))))|exact selS (selS (selS (selS (selS (selS sel1))))));exact zaD.own mem0 rfl (Lvl.enc_one ⟨x.price,x.left⟩);omega;(show(_:Nat)*16≤_;omega);intro A' c')
    |(apply zab;(iterate 5 exact rfl);first|exact zas hT rfl rfl mem0 rfl rfl|exact zaq hT rfl rfl mem0 rfl)
    |(apply zab;(iterate 5 exact rfl);first|exact zas hT rfl rfl mem1 rfl rfl|exact zaq hT rfl rfl mem1 rfl)
    |(apply zab;(iterate 5 exact rfl);first|exact zas hT rfl rfl mem2 rfl rfl|exact zaq hT rfl rfl mem2 rfl)
    |(apply zab;(iterate 5 exact rfl);first|exact zas hT rfl rfl mem0 rfl rfl|exact zaq hT rfl rfl mem0 rfl)
    |(apply zab;(iterate 5 exact rfl);first|exact zas hT rfl rfl (List.mem_cons_of_mem _ mem0) rfl rfl|exact zaq hT rfl rfl (List.mem_cons_of_mem _ mem0) rfl)
    |(apply zab;(iterate 5 exact rfl);first|exact zas hT rfl rfl mem1 rfl rfl|exact zaq hT rfl rfl mem1 rfl)
    |(apply zab;(iterate 5 exact rfl);first|exact zas hT rfl rfl (List.mem_cons_of_mem _ mem1) rfl rfl|exact zaq hT rfl rfl (List.mem_cons_of_mem _ mem1) rfl)
    |(apply zau;(iterate 5 exact rfl);intro _)|(apply zac hT;(iterate 5 exact rfl);intro _)
    |(apply zaf;(iterate 2 exact rfl))|(apply zag;(iterate 2 exact rfl))
    |(apply zak;exact rfl;all_goals intro hb;all_goals(try simp only[hb]);all_goals(first|replace hb:=of_decide_eq_true hb|replace hb:=of_decide_eq_false hb|replace hb:=zao hb|replace hb:=zap hb|skip);all_goals(try(exfalso;omega)))
    |(apply zan;exact rfl;all_goals intro hb;all_goals(try simp only[hb]);all_goals(first|replace hb:=of_decide_eq_true hb|replace hb:=of_decide_eq_false hb|replace hb:=zao hb|replace hb:=zap hb|skip);all_goals(try(exfalso;omega))))
   all_goals first
    |(exfalso;omega)
    |(refine zaM (k+1,A',c') (by dsimp only;omega) (by dsimp only;omega) ⟨by dsimp only;rw[hstep,hadd,lla];rfl,rfl,rfl,rfl,trivial⟩ ?_
      dsimp only
      rw[hstep,hadd,lla,List.flatMap_append]
      apply zbr;(first|exact sel0|exact sel1|exact selS sel1|exact selS (selS sel1)|exact selS (selS (selS sel1))|exact selS (selS (selS (selS sel1)))|exact selS (selS (selS (selS (selS sel1))))|exact selS (selS (selS (selS (selS (selS sel1))))))
      apply zbr;(first|exact sel0|exact sel1|exact selS sel1|exact selS (selS sel1)|exact selS (selS (selS sel1))|exact selS (selS (selS (selS sel1)))|exact selS (selS (selS (selS (selS sel1))))|exact selS (selS (selS (selS (selS (selS sel1))))))
      exact dX)
    |(exfalso;simp_all;done)
  ·obtain⟨y,hy⟩:∃y,v[v.length - 1]? =some y:=⟨v[v.length - 1]'(by omega),gge (by omega)⟩
   have hy2:v[((v.length:Int) - 1).toNat]? =some y:=by rw[show((v.length:Int) - 1).toNat=v.length - 1 by omega];exact hy
   have hA5:=hf5.some_ (by omega)
   have hd2:decide (((v.length:Nat):Int)>0)=true:=by simp;omega
   have hqy:=hqv y (mog hy)
   by_cases hpp:y.price=x.price
   ·have hadd:=zhB (o:=x) hy hpp
    have hlay:lay (v.flatMap Lvl.enc) (((v.length:Int) - 1).toNat*2+1) [.int .i64 (y.qty+x.left)]=(zcM v x).flatMap Lvl.enc:=by
     rw[hadd,show((v.length:Int) - 1).toNat=v.length - 1 by omega,zfb Lvl.enc_len (x':=⟨y.price,y.qty+x.left⟩) hy (Nat.le_of_ble_eq_true rfl) rfl]
    have hlen:(zcM v x).length=v.length:=by rw[hadd];simp
    repeat' (first
     |apply zaz|apply zaa|apply zay|apply zal|apply zam|apply zae|apply zaw
     |(apply zai hT;(iterate 4 exact rfl))|(apply zaj;(iterate 3 exact rfl))|(apply zad;(iterate 2 exact rfl))
     |(apply zax hT;(iterate 4 exact rfl);(iterate 2 omega))
     |(apply zar [] [] hmix;decide+kernel)
     |(apply zaU hT;(iterate 8 exact rfl);(iterate 2 omega);first|exact hA|exact hA5)
     |(apply zab;(iterate 5 exact rfl);first|exact zaY hT rfl rfl (hfS.reads mem1) zav.enc_len rfl hx2 rfl|exact zc6 hT rfl rfl (hf5.reads mem1) Lvl.enc_len (zbq _ _ _) hy2 (by decide) rfl)
     |(apply zac hT;(iterate 5 exact rfl);intro g7)
     |(apply zaP hT;(iterate 6 exact rfl);exact sel0;(iterate 3 exact rfl);exact Nat.le_of_ble_eq_true rfl)
     |(apply za8 hT;(iterate 6 exact rfl);(first|exact sel0|exact sel1|exact selS sel1|exact selS (selS sel1)|exact selS (selS (selS sel1))|exact selS (selS (selS (selS sel1)))|exact selS (selS (selS (selS (selS sel1))))|exact selS (selS (selS (selS (selS (selS sel1))))));exact zbq _ _ _;exact rfl;exact rfl;(show(((v.length:Int) - 1).toNat*2+1)+1≤v.length*2;omega);omega)
     |(apply zab;(iterate 5 exact rfl);first|exact zas hT rfl rfl mem0 rfl rfl|exact zaq hT rfl rfl mem0 rfl)
     |(apply zab;(iterate 5 exact rfl);first|exact zas hT rfl rfl mem1 rfl rfl|exact zaq hT rfl rfl mem1 rfl)
     |(apply zab;(iterate 5 exact rfl);first|exact zas hT rfl rfl mem2 rfl rfl|exact zaq hT rfl rfl mem2 rfl)
     |(apply zab;(iterate 5 exact rfl);first|exact zas hT rfl rfl mem0 rfl rfl|exact zaq hT rfl rfl mem0 rfl)
     |(apply zab;(iterate 5 exact rfl);first|exact zas hT rfl rfl (List.mem_cons_of_mem _ mem0) rfl rfl|exact zaq hT rfl rfl (List.mem_cons_of_mem _ mem0) rfl)
     |(apply zab;(iterate 5 exact rfl);first|exact zas hT rfl rfl mem1 rfl rfl|exact zaq hT rfl rfl mem1 rfl)
     |(apply zab;(iterate 5 exact rfl);first|exact zas hT rfl rfl (List.mem_cons_of_mem _ mem1) rfl rfl|exact zaq hT rfl rfl (List.mem_cons_of_mem _ mem1) rfl)
     |(apply zau;(iterate 5 exact rfl);intro _)|(apply zac hT;(iterate 5 exact rfl);intro _)
     |(apply zaf;(iterate 2 exact rfl))|(apply zag;(iterate 2 exact rfl))
     |(apply zak;exact rfl;all_goals intro hb;all_goals(try simp only[hb]);all_goals(first|replace hb:=of_decide_eq_true hb|replace hb:=of_decide_eq_false hb|replace hb:=zao hb|replace hb:=zap hb|skip);all_goals(try(exfalso;omega)))
     |(apply zan;exact rfl;all_goals intro hb;all_goals(try simp only[hb]);all_goals(first|replace hb:=of_decide_eq_true hb|replace hb:=of_decide_eq_false hb|replace hb:=zao hb|replace hb:=zap hb|skip);all_goals(try(exfalso;omega))))
    all_goals first
     |(exfalso;omega)
     |(refine zaM (k+1,A5,c5) (by dsimp only;omega) (by dsimp only;omega) ⟨by dsimp only;rw[hstep,hlen];rfl,rfl,rfl,rfl,trivial⟩ ?_
       dsimp only
       rw[hstep,hlen,←hlay]
       apply zbr;(first|exact sel0|exact sel1|exact selS sel1|exact selS (selS sel1)|exact selS (selS (selS sel1))|exact selS (selS (selS (selS sel1)))|exact selS (selS (selS (selS (selS sel1))))|exact selS (selS (selS (selS (selS (selS sel1))))))
       apply zbr;(first|exact sel0|exact sel1|exact selS sel1|exact selS (selS sel1)|exact selS (selS (selS sel1))|exact selS (selS (selS (selS sel1)))|exact selS (selS (selS (selS (selS sel1))))|exact selS (selS (selS (selS (selS (selS sel1))))))
       exact dX)
     |(exfalso;simp_all;done)
   ·have hadd:zcM v x=v++[⟨x.price,x.left⟩]:=zfQ (fun z hz=>by rw[hy]at hz;cases hz;exact hpp)
    repeat' (first
     |apply zaz|apply zaa|apply zay|apply zal|apply zam|apply zae|apply zaw
     |(apply zai hT;(iterate 4 exact rfl))|(apply zaj;(iterate 3 exact rfl))|(apply zad;(iterate 2 exact rfl))
     |(apply zax hT;(iterate 4 exact rfl);(iterate 2 omega))
     |(apply zar [] [] hmix;decide+kernel)
     |(apply zaU hT;(iterate 8 exact rfl);(iterate 2 omega);first|exact hA|exact hA5)
     |(apply zab;(iterate 5 exact rfl);first|exact zaY hT rfl rfl (hfS.reads mem1) zav.enc_len rfl hx2 rfl|exact zc6 hT rfl rfl (hf5.reads mem1) Lvl.enc_len (zbq _ _ _) hy2 (by decide) rfl)
     |(apply zac hT;(iterate 5 exact rfl);intro g7)
     |(apply zaP hT;(iterate 6 exact rfl);exact sel0;(iterate 3 exact rfl);exact Nat.le_of_ble_eq_true rfl)
     |(apply zc8 hT;(iterate 4 exact rfl))
     |(apply zaI hT;(iterate 12 exact rfl);intro g)
     |(apply za2 hT;(iterate 10 exact rfl);(first|exact sel0|exact sel1|exact selS sel1|exact selS (selS sel1)|exact selS (selS (selS sel1))|exact selS (selS (selS (selS sel1)))|exact selS (selS (selS (selS (selS sel1))))|exact selS (selS (selS (selS (selS (selS sel1))))));exact zaD.own mem0 rfl (Lvl.enc_one ⟨x.price,x.left⟩);omega;(show(_:Nat)*16≤_;omega);intro A' c')
     |(apply zab;(iterate 5 exact rfl);first|exact zas hT rfl rfl mem0 rfl rfl|exact zaq hT rfl rfl mem0 rfl)
     |(apply zab;(iterate 5 exact rfl);first|exact zas hT rfl rfl mem1 rfl rfl|exact zaq hT rfl rfl mem1 rfl)
     |(apply zab;(iterate 5 exact rfl);first|exact zas hT rfl rfl mem2 rfl rfl|exact zaq hT rfl rfl mem2 rfl)
     |(apply zab;(iterate 5 exact rfl);first|exact zas hT rfl rfl mem0 rfl rfl|exact zaq hT rfl rfl mem0 rfl)
     |(apply zab;(iterate 5 exact rfl);first|exact zas hT rfl rfl (List.mem_cons_of_mem _ mem0) rfl rfl|exact zaq hT rfl rfl (List.mem_cons_of_mem _ mem0) rfl)
     |(apply zab;(iterate 5 exact rfl);first|exact zas hT rfl rfl mem1 rfl rfl|exact zaq hT rfl rfl mem1 rfl)
     |(apply zab;(iterate 5 exact rfl);first|exact zas hT rfl rfl (List.mem_cons_of_mem _ mem1) rfl rfl|exact zaq hT rfl rfl (List.mem_cons_of_mem _ mem1) rfl)
     |(apply zau;(iterate 5 exact rfl);intro _)|(apply zac hT;(iterate 5 exact rfl);intro _)
     |(apply zaf;(iterate 2 exact rfl))|(apply zag;(iterate 2 exact rfl))
     |(apply zak;exact rfl;all_goals intro hb;all_goals(try simp only[hb]);all_goals(first|replace hb:=of_decide_eq_true hb|replace hb:=of_decide_eq_false hb|replace hb:=zao hb|replace hb:=zap hb|skip);all_goals(try(exfalso;omega)))
     |(apply zan;exact rfl;all_goals intro hb;all_goals(try simp only[hb]);all_goals(first|replace hb:=of_decide_eq_true hb|replace hb:=of_decide_eq_false hb|replace hb:=zao hb|replace hb:=zap hb|skip);all_goals(try(exfalso;omega))))
    all_goals first
     |(exfalso;omega)
     |(refine zaM (k+1,A',c') (by dsimp only;omega) (by dsimp only;omega) ⟨by dsimp only;rw[hstep,hadd,lla];rfl,rfl,rfl,rfl,trivial⟩ ?_
       dsimp only
       rw[hstep,hadd,lla,List.flatMap_append]
       apply zbr;(first|exact sel0|exact sel1|exact selS sel1|exact selS (selS sel1)|exact selS (selS (selS sel1))|exact selS (selS (selS (selS sel1)))|exact selS (selS (selS (selS (selS sel1))))|exact selS (selS (selS (selS (selS (selS sel1))))))
       apply zbr;(first|exact sel0|exact sel1|exact selS sel1|exact selS (selS sel1)|exact selS (selS (selS sel1))|exact selS (selS (selS (selS sel1)))|exact selS (selS (selS (selS (selS sel1))))|exact selS (selS (selS (selS (selS (selS sel1))))))
       exact dX)
     |(exfalso;simp_all;done)
 ·obtain rfl:k=sl.length:=by omega
  have hd1:decide ((sl.length:Int)<(sl.length:Int))=false:=by simp
  rw[List.take_length]at hf5 ⊢
  repeat' (first
   |apply zaz|apply zaa|apply zay|apply zal|apply zam|apply zae|apply zaw
   |(apply zai hT;(iterate 4 exact rfl))|(apply zaj;(iterate 3 exact rfl))|(apply zad;(iterate 2 exact rfl))
   |(apply zax hT;(iterate 4 exact rfl);(iterate 2 omega))
   |(apply zar [] [] hmix;decide+kernel)
   |(apply zab;(iterate 5 exact rfl);first|exact zas hT rfl rfl mem0 rfl rfl|exact zaq hT rfl rfl mem0 rfl)
   |(apply zab;(iterate 5 exact rfl);first|exact zas hT rfl rfl mem1 rfl rfl|exact zaq hT rfl rfl mem1 rfl)
   |(apply zab;(iterate 5 exact rfl);first|exact zas hT rfl rfl mem2 rfl rfl|exact zaq hT rfl rfl mem2 rfl)
   |(apply zau;(iterate 5 exact rfl);intro _)|(apply zac hT;(iterate 5 exact rfl);intro _)
   |(apply zaf;(iterate 2 exact rfl))|(apply zag;(iterate 2 exact rfl))
   |(apply zak;exact rfl;all_goals intro hb;all_goals(try simp only[hb]);all_goals(first|replace hb:=of_decide_eq_true hb|replace hb:=of_decide_eq_false hb|replace hb:=zao hb|replace hb:=zap hb|skip);all_goals(try(exfalso;omega)))
   |(apply zan;exact rfl;all_goals intro hb;all_goals(try simp only[hb]);all_goals(first|replace hb:=of_decide_eq_true hb|replace hb:=of_decide_eq_false hb|replace hb:=zao hb|replace hb:=zap hb|skip);all_goals(try(exfalso;omega))))
  apply ret1;exact rfl
  exact⟨.own A5 (za4 sl).length c5 134 2 ((za4 sl).flatMap Lvl.enc)::h,by apply zbr;(first|exact sel0|exact sel1|exact selS sel1|exact selS (selS sel1)|exact selS (selS (selS sel1))|exact selS (selS (selS (selS sel1)))|exact selS (selS (selS (selS (selS sel1))))|exact selS (selS (selS (selS (selS (selS sel1))))));exact dX,fun w hw=>⟨A5,c5,rfl,rfl,hf5⟩⟩
end Go.Proofs.YteocfhdocpeokaaGreat
set_option linter.unusedSimpArgs false
set_option linter.unusedVariables false
namespace Go.Proofs.YteocfhdocpeokaaGreat
open Go Go.Sl
attribute [local irreducible] AW ES EP Ld RetQ
set_option maxRecDepth 100000
structure zaT (l:List zav):Prop where
 seq:zdf l
 id:l.Pairwise fun a b=>a.id≠b.id
 ok:∀o∈l,okO o=true
 len:l.length≤64
theorem zaT.nil :zaT []:=⟨List.Pairwise.nil,List.Pairwise.nil,(fun o h=>by cases h),Nat.zero_le _⟩
theorem zhb {o:zav}(h:okO o=true):isB o.side=true:=by simp only[okO,Bool.and_eq_true]at h;exact h.2
theorem zhc {o:zav}(h:okO o=true):1≤o.left∧o.left≤1000000:=by
 simp only[okO,Bool.and_eq_true,decide_eq_true_eq]at h
 exact⟨h.1.1.1.2,h.1.1.2⟩
theorem zaT.side {l:List zav}(h:zaT l):∀o∈l,isB o.side=true:=fun o ho=>zhb (h.ok o ho)
theorem zaT.left {l:List zav}(h:zaT l):∀o∈l,1≤o.left∧o.left≤1000000:=fun o ho=>zhc (h.ok o ho)
theorem zaT.le {l:List zav}(h:zaT l):l.length≤1000000:=by have:=h.len;omega
theorem zaT.add {l:List zav}(h:zaT l)(o:zav):zaT (addO o l):=by
 unfold addO
 split
 ·rename_i h0
  have hE:=h0
  unfold zj8 at hE
  have h1:¬(okO o=false∨za0 (zdE o) l≥0):=fun hh=>by rw[if_pos hh]at hE;omega
  rw[if_neg h1]at hE
  have h2:¬l.length≥64:=fun hh=>by rw[if_pos hh]at hE;omega
  have hno:∀x∈l,zdE o x=false:=zbt.1 (by omega)
  have hok:okO o=true:=by
   cases hh:okO o
   ·exact absurd (.inl hh) h1
   ·rfl
  have hne:∀x∈l,x.id≠o.id∧x.seq≠o.seq:=fun x hx=>by
   have:=hno x hx
   simp only[zdE,Bool.or_eq_false_iff,beq_eq_false_iff_ne]at this
   exact this
  refine⟨?_,?_,?_,by simp;omega⟩
  ·unfold zdf
   rw[List.pairwise_append]
   exact⟨h.seq,by simp,fun a ha b hb=>by rw[lms.1 hb];exact(hne a ha).2⟩
  ·rw[List.pairwise_append]
   exact⟨h.id,by simp,fun a ha b hb=>by rw[lms.1 hb];exact(hne a ha).1⟩
  ·intro x hx
   rcases lma.1 hx with hx|hx
   ·exact h.ok x hx
   ·rw[lms.1 hx];exact hok
 ·exact h
end Go.Proofs.YteocfhdocpeokaaGreat
set_option linter.unusedSimpArgs false
set_option linter.unusedVariables false
namespace Go.Proofs.YteocfhdocpeokaaGreat
open Go Go.Sl
attribute [local irreducible] AW ES EP Ld RetQ
set_option maxRecDepth 100000
/-- less of one order: in a side, too -/
def lf (id left:Int)(x:zav):zav:=if x.id=id then{x with left:=left}else x
theorem zi1 {id left:Int}{l:List zav}(hu:l.Pairwise fun a b=>a.id≠b.id)(hE:zdJ id left l=0):zct id left l=l.map (lf id left):=by
 rcases zdx (p:=hasO id) l with ⟨hi,hf⟩|⟨i,x,hi,hx,hp,hf⟩
 ·simp[zdJ,getO,hf]at hE
 ·have hg:getO id l=some x:=hf
  have hL:zct id left l=l.set i {x with left:=left}:=by simp[zct,hg,hE,hi]
  rw[hL]
  have hxi:x.id=id:=by simpa [hasO]using hp
  obtain⟨hlt,hxe⟩:=gsi.1 hx
  apply List.ext_getElem?
  intro j
  rw[List.getElem?_map]
  by_cases hij:i=j
  ·subst hij
   rw[hx,List.getElem?_set_self hlt];simp[lf,hxi]
  ·rw[List.getElem?_set_ne hij]
   cases hy:l[j]? with
   |none=>rfl
   |some y=>
    simp only[Option.map_some]
    obtain⟨hjl,hye⟩:=gsi.1 hy
    have hne:y.id≠x.id:=by
     rcases Nat.lt_or_gt_of_ne hij with h|h
     ·have:=List.pairwise_iff_getElem.1 hu i j hlt hjl h
      rw[hxe,hye]at this;exact fun e=>this e.symm
     ·have:=List.pairwise_iff_getElem.1 hu j i hjl hlt h
      rw[hxe,hye]at this;exact this
    rw[lf,if_neg (by rw[←hxi];exact hne)]
theorem zhd {id left:Int}{l:List zav}(hE:¬zdJ id left l=0):zct id left l=l:=by
 unfold zct
 split
 ·rfl
 ·rw[if_neg hE]
theorem zaT.less {l:List zav}(h:zaT l){id left:Int}(hE:zdJ id left l=0):zaT (zct id left l):=by
 rw[zi1 h.id hE]
 have hq:1≤left∧∀x∈l,x.id=id→left≤x.left:=by
  rcases zdx (p:=hasO id) l with ⟨hi,hf⟩|⟨i,x,hi,hx,hp,hf⟩
  ·simp[zdJ,getO,hf]at hE
  ·have hg:getO id l=some x:=hf
   have hb:¬(left<1∨left>x.left):=fun hh=>by simp[zdJ,hg,hh]at hE
   refine⟨by omega,fun y hy hyi=> ?_⟩
   have hxi:x.id=id:=by simpa [hasO]using hp
   obtain⟨j,hj⟩:=List.getElem?_of_mem hy
   obtain⟨hlt,hxe⟩:=gsi.1 hx
   obtain⟨hjl,hye⟩:=gsi.1 hj
   rcases Nat.lt_trichotomy i j with h'|h'|h'
   ·have:=List.pairwise_iff_getElem.1 h.id i j hlt hjl h'
    rw[hxe,hye]at this;omega
   ·subst h';rw[hxe]at hye;rw[←hye];omega
   ·have:=List.pairwise_iff_getElem.1 h.id j i hjl hlt h'
    rw[hxe,hye]at this;omega
 have k:∀x:zav,(lf id left x).id=x.id∧(lf id left x).seq=x.seq:=fun x=>by unfold lf;split<;>exact⟨rfl,rfl⟩
 refine⟨?_,?_,?_,by simpa using h.len⟩
 ·unfold zdf;rw[List.pairwise_map];exact h.seq.imp (fun{a b} hab=>by rw[(k a).2,(k b).2];exact hab)
 ·rw[List.pairwise_map];exact h.id.imp (fun{a b} hab=>by rw[(k a).1,(k b).1];exact hab)
 ·intro o ho
  obtain⟨x,hx,rfl⟩:=lmm.1 ho
  have hok:=h.ok x hx
  have hl:=h.left x hx
  unfold lf
  split
  ·rename_i hxi
   have:=hq.2 x hx hxi
   simp only[okO,Bool.and_eq_true,decide_eq_true_eq]at hok ⊢
   obtain⟨⟨⟨⟨⟨⟨⟨a1,a2⟩,a3⟩,a4⟩,a5⟩,a6⟩,a7⟩,a8⟩:=hok
   exact⟨⟨⟨⟨⟨⟨⟨a1,a2⟩,a3⟩,a4⟩,hq.1⟩,by omega⟩,a7⟩,a8⟩
  ·exact hok
end Go.Proofs.YteocfhdocpeokaaGreat
set_option linter.unusedSimpArgs false
set_option linter.unusedVariables false
namespace Go.Proofs.YteocfhdocpeokaaGreat
open Go Go.Sl
attribute [local irreducible] AW ES EP Ld RetQ
set_option maxRecDepth 100000
section
variable {P : Program} {W : World} {T : Tab} {N : Nat} {env : Env} {h : List zah} {kf : KF} {ops : Array Oper} {K : Env → List zah → Prop} {rest : List Oper}
end
/-! ### sums, and levels by price -/
def sumL (o:List zav):Int:=(o.map zav.left).sum
theorem zdy (a b:List Int):(a++b).sum=a.sum+b.sum:=by
 induction a with
 |nil=>simp
 |cons x a ih=>simp[ih];omega
theorem zej (a b:List zav):sumL (a++b)=sumL a+sumL b:=by simp[sumL,zdy]
theorem zi2 {a b:List zav}(h:a.Perm b):sumL a=sumL b:=by
 induction h with
 |nil=>rfl
 |cons x _ ih=>simp[sumL]at ih ⊢;omega
 |swap x y l=>simp[sumL];omega
 |trans _ _ h1 h2=>omega
end Go.Proofs.YteocfhdocpeokaaGreat
set_option linter.unusedSimpArgs false
set_option linter.unusedVariables false
namespace Go.Proofs.YteocfhdocpeokaaGreat
open Go Go.Sl
attribute [local irreducible] AW ES EP Ld RetQ
set_option maxRecDepth 100000
structure zka where
 kind:Int
 order:zav
def zka.enc (a:zka):List Value:=.int .i64 a.kind::a.order.enc
theorem zka.enc_len (a:zka):a.enc.length=7:=rfl
theorem zdg (id:Int)(l:List zav):(zbR id l).Sublist l:=by
 unfold zbR
 split
 ·exact List.Sublist.refl _
 ·generalize (za0 (hasO id) l).toNat=i
  have h:l.take i++l.drop (i+1)=l.eraseIdx i:=(List.eraseIdx_eq_take_drop_succ l i).symm
  rw[h];exact List.eraseIdx_sublist l i
theorem zaT.sub {l m:List zav}(h:zaT l)(hs:m.Sublist l):zaT m:=
 ⟨List.Pairwise.sublist hs h.seq,h.id.sublist hs,fun o ho=>h.ok o (hs.subset ho),Nat.le_trans hs.length_le h.len⟩
theorem zaT.lessAny {l:List zav}(h:zaT l)(id left:Int):zaT (zct id left l):=by
 by_cases hE:zdJ id left l=0
 ·exact h.less hE
 ·rw[zhd hE];exact h
end Go.Proofs.YteocfhdocpeokaaGreat
set_option linter.unusedSimpArgs false
set_option linter.unusedVariables false
namespace Go.Proofs.YteocfhdocpeokaaGreat
open Go Go.Sl
def pqO (o:zav):Int×Int:=(o.price,o.left)
/-- prices and quantities that may be -/
def okP (l:List (Int×Int)):Prop:=∀x∈l,1≤x.1∧x.1≤1000000∧1≤x.2
theorem okP.tail {x:Int×Int}{l:List (Int×Int)}(h:okP (x::l)):okP l:=fun y hy=>h y (List.mem_cons_of_mem _ hy)
/-! ### a side -/
def okS (o:List zav):Prop:=∀x∈o,1≤x.price∧x.price≤1000000∧1≤x.left∧x.left≤1000000
theorem okS.pq {o:List zav}(h:okS o):okP (o.map pqO):=fun x hx=>by
 obtain⟨y,hy,rfl⟩:=lmm.1 hx
 exact⟨(h y hy).1,(h y hy).2.1,(h y hy).2.2.1⟩
theorem zek {o:zav}(h:okO o=true):1≤o.price∧o.price≤1000000:=by
 simp only[okO,Bool.and_eq_true,decide_eq_true_eq]at h
 exact⟨h.1.1.1.1.1.2,h.1.1.1.1.2⟩
theorem zaT.okS {l:List zav}(h:zaT l)(s:Int):okS (zbo s l):=fun x hx=>by
 have:=(zca hx).1
 exact⟨(zek (h.ok x this)).1,(zek (h.ok x this)).2,(h.left x this).1,(h.left x this).2⟩
end Go.Proofs.YteocfhdocpeokaaGreat
set_option linter.unusedSimpArgs false
set_option linter.unusedVariables false
namespace Go.Proofs.YteocfhdocpeokaaGreat
open Go Go.Sl Go.RowKit
namespace MulK
theorem maskN (a:Nat)(ha:a<18446744073709551616):bits .and .u64 (a:Int) 4294967295=((a%4294967296:Nat):Int):=by
 have h:=bits_and_u64_nat a 4294967295 ha (by omega)
 have e:a &&& 4294967295=a%4294967296:=Nat.and_two_pow_sub_one_eq_mod a 32
 rw[e]at h
 exact h
theorem divN (a:Nat):(a:Int) / 4294967296=((a / 4294967296:Nat):Int):=by omega
theorem mulN (a b:Nat):(a:Int)*(b:Int)=((a*b:Nat):Int):=(Int.natCast_mul a b).symm
theorem addN (a b:Nat):(a:Int)+(b:Int)=((a+b:Nat):Int):=(Int.natCast_add a b).symm
theorem wrapN (a:Nat)(ha:a<18446744073709551616):IntKind.u64.wrap (a:Int)=(a:Int):=by rw[IntKind.wrap_u64];omega
theorem wrapM (a:Nat):IntKind.u64.wrap (a:Int)=((a%18446744073709551616:Nat):Int):=by rw[IntKind.wrap_u64];omega
end MulK
theorem mulK (x y:Nat)(hx:x<18446744073709551616)(hy:y<18446744073709551616)(w:World):
 Calls Tryz.prog 68 #[.int .u64 x,.int .u64 y] w fun e w'=>e=.returned (.tuple #[.int .u64 ((x*y / 18446744073709551616:Nat):Int),.int .u64 ((x*y%18446744073709551616:Nat):Int)])∧w'=w:=by
 obtain⟨bd,bt,bw,hhi⟩:=Lib.mul64_hi x y hx hy
 have ba:=Lib.half_mul_le (a:=x / 4294967296) (b:=y / 4294967296) (by omega) (by omega)
 have bb:=Lib.half_mul_le (a:=x / 4294967296) (b:=y%4294967296) (by omega) (by omega)
 have bc:=Lib.half_mul_le (a:=x%4294967296) (b:=y / 4294967296) (by omega) (by omega)
 have ba':x / 4294967296*(y / 4294967296)<18446744073709551616:=by omega
 have bb':x / 4294967296*(y%4294967296)<18446744073709551616:=by omega
 have bc':x%4294967296*(y / 4294967296)<18446744073709551616:=by omega
 have bh1:x / 4294967296*(y / 4294967296)+(x / 4294967296*(y%4294967296)+x%4294967296*(y%4294967296) / 4294967296) / 4294967296<18446744073709551616:=by omega
 have bh:x / 4294967296*(y / 4294967296)+(x / 4294967296*(y%4294967296)+x%4294967296*(y%4294967296) / 4294967296) / 4294967296+((x / 4294967296*(y%4294967296)+x%4294967296*(y%4294967296) / 4294967296)%4294967296+x%4294967296*(y / 4294967296)) / 4294967296<18446744073709551616:=by omega
 go_enter Tryz.func68,Tryz.ntmps68
 go_wp2
 simp only[MulK.maskN x hx,MulK.maskN y hy,MulK.divN,MulK.mulN,MulK.addN,MulK.wrapN _ bd,MulK.wrapN _ bb',MulK.wrapN _ bt,MulK.maskN _ bt,MulK.wrapN _ bc',MulK.wrapN _ bw,MulK.wrapN _ ba',MulK.wrapN _ bh1,MulK.wrapN _ bh,MulK.wrapM (x*y)]
 rw[hhi]
 go_ret2
 exact⟨rfl,rfl⟩
theorem zni (W:World)(x y:Nat)(hx:x<18446744073709551616)(hy:y<18446744073709551616):
 zaF Tryz.prog W 68 [.int .u64 x,.int .u64 y] [] (.tuple #[.int .u64 ((x*y / 18446744073709551616:Nat):Int),.int .u64 ((x*y%18446744073709551616:Nat):Int)]):=
 ⟨⟨_,Tryz.func68,rfl,rfl⟩,fun h' hs w hw=>(mulK x y hx hy w).mono fun e w' ⟨he,hww⟩=>⟨he,by rw[hww];exact hw⟩⟩
end Go.Proofs.YteocfhdocpeokaaGreat
set_option linter.unusedSimpArgs false
set_option linter.unusedVariables false
namespace Go.Proofs.YteocfhdocpeokaaGreat
open Go Go.Sl
attribute [local irreducible] AW ES Ld RetQ
set_option maxRecDepth 100000
def orI :List Int→Int
 |[]=>0
 |x::xs=>if x=0 then orI xs else x
end Go.Proofs.YteocfhdocpeokaaGreat
set_option linter.unusedSimpArgs false
set_option linter.unusedVariables false
namespace Go.Proofs.YteocfhdocpeokaaGreat
open Go Go.Sl
attribute [local irreducible] AW ES EP Ld RetQ
set_option maxRecDepth 100000
/-- a number of 128 digits -/
def zll (n:Nat):List Value:=[.int .u64 ((n / 18446744073709551616:Nat):Int),.int .u64 ((n%18446744073709551616:Nat):Int)]
/-- a number, or none -/
def gotW (n:Option Nat):Value:=match n with
 |some n=>.tuple #[.agg (zll n).toArray,.bool true]
 |none=>.tuple #[.agg (zll 0).toArray,.bool false]
theorem zi3 (W:World)(a b:Nat)(ha:a≤9223372036854775807)(hb:b≤9223372036854775807):
 zaF Tryz.prog W 25 [.int .i64 a,.int .i64 b] [] (gotW (some (a*b))):=by
 refine zaF.ofD (fun h' hs=> ?_)
 have hm:=(zni W a b (by omega) (by omega))
 refine zaA Tryz.func25 rfl rfl Tryz.results25 Tryz.ntmps25 rfl rfl ?_
 repeat' (first
  |apply zaz|apply zaa|apply zay|apply zal|apply zam|apply zae|apply zaw
  |(apply zai hT;(iterate 4 exact rfl))|(apply zaj;(iterate 3 exact rfl))|(apply zad;(iterate 2 exact rfl))
  |(apply zax hT;(iterate 4 exact rfl);(iterate 2 (first|omega|(dsimp only;omega))))
  |(apply zar [] [] hmix;decide+kernel)
  |(apply zac hT;(iterate 5 exact rfl);intro g4)
  |(apply zfz hT;(iterate 4 exact rfl);(iterate 2 omega))
  |(apply zaC (hs:=(hm.mono (by simp)));(iterate 7 exact rfl))
  |(apply zc8 hT;(iterate 4 exact rfl))
  |(apply zaP hT;(iterate 6 exact rfl);exact sX;(iterate 3 exact rfl);exact Nat.le_of_ble_eq_true rfl)
  |(apply zab;(iterate 5 exact rfl);first|(apply zas hT;exact rfl;exact rfl;(repeat(first|exact List.mem_cons_self|apply List.mem_cons_of_mem|apply List.mem_append_right));exact rfl;exact rfl)|(apply zaq hT;exact rfl;exact rfl;(repeat(first|exact List.mem_cons_self|apply List.mem_cons_of_mem|apply List.mem_append_right));exact rfl))
  |(apply zau;(iterate 5 exact rfl);intro _)|(apply zac hT;(iterate 5 exact rfl);intro _)
  |(apply zaf;(iterate 2 exact rfl))|(apply zag;(iterate 2 exact rfl))
  |(apply zak;exact rfl;all_goals intro hb;all_goals(fail_if_success (change true=true at hb));all_goals(fail_if_success (change false=false at hb));all_goals(try dsimp only at hb);all_goals(try simp only[hb]);all_goals(first|replace hb:=of_decide_eq_true hb|replace hb:=of_decide_eq_false hb|replace hb:=zao hb|replace hb:=zap hb|replace hb:=eq_of_beq hb|replace hb:=ne_of_beq_false hb|skip);all_goals(try(exfalso;omega)))
  |(apply zan;exact rfl;all_goals intro hb;all_goals(try dsimp only at hb);all_goals(try simp only[hb]);all_goals(first|replace hb:=of_decide_eq_true hb|replace hb:=of_decide_eq_false hb|replace hb:=zao hb|replace hb:=zap hb|replace hb:=eq_of_beq hb|replace hb:=ne_of_beq_false hb|skip);all_goals(try(exfalso;omega))))
 all_goals first
  |(exfalso;omega)
  |(apply zmd;exact rfl;exact zaq hT rfl rfl mem0 rfl;exact rfl;exact⟨rfl,zcp zbJ⟩)
end Go.Proofs.YteocfhdocpeokaaGreat
set_option linter.unusedSimpArgs false
set_option linter.unusedVariables false
namespace Go.Proofs.YteocfhdocpeokaaGreat
open Go Go.Sl
attribute [local irreducible] AW ES EP Ld RetQ
set_option maxRecDepth 100000
theorem zlm {l:List zav}(h:∀o∈l,1≤o.left∧o.left≤1000000):0≤sumL l∧sumL l≤1000000*l.length:=by
 induction l with
 |nil=>simp[sumL]
 |cons x l ih=>
  have hx:=h x List.mem_cons_self
  have:=ih (fun y hy=>h y (List.mem_cons_of_mem _ hy))
  simp only[sumL,List.map_cons,List.sum_cons,List.length_cons]at*
  omega
end Go.Proofs.YteocfhdocpeokaaGreat
set_option linter.unusedSimpArgs false
set_option linter.unusedVariables false
namespace Go.Proofs.YteocfhdocpeokaaGreat
open Go Go.Sl
attribute [local irreducible] AW ES EP Ld RetQ
set_option maxRecDepth 100000
def zb2 (s:Int):Int:=if isB s then 3 - s else 0
theorem zgz {s:Int}(h:isB s=true):s=1∨s=2:=by simpa [isB]using h
end Go.Proofs.YteocfhdocpeokaaGreat
set_option linter.unusedSimpArgs false
set_option linter.unusedVariables false
namespace Go.Proofs.YteocfhdocpeokaaGreat
open Go Go.Sl
structure zb7 where
 maker:Int
 taker:Int
 mparty:Int
 tparty:Int
 price:Int
 qty:Int
 left:Int
 deriving DecidableEq
def zb7.enc (f:zb7):List Value:=[.int .i64 f.maker,.int .i64 f.taker,.int .i64 f.mparty,.int .i64 f.tparty,.int .i64 f.price,.int .i64 f.qty,.int .i64 f.left]
theorem zb7.enc_len (f:zb7):f.enc.length=7:=rfl
theorem zb7.enc_one (f:zb7):∀x∈f.enc,x.oneCell'=true:=List.all_eq_true.1 (rfl:f.enc.all Value.oneCell'=true)
structure zel where
 id:Int
 owner:Int
 left:Int
 deriving DecidableEq
def zel.enc (f:zel):List Value:=[.int .i64 f.id,.int .i64 f.owner,.int .i64 f.left]
theorem zel.enc_len (f:zel):f.enc.length=3:=rfl
theorem zel.enc_one (f:zel):∀x∈f.enc,x.oneCell'=true:=List.all_eq_true.1 (rfl:f.enc.all Value.oneCell'=true)
/-- may an order trade with one of the book? -/
def zdF (how:Int)(o x:zav):Bool:=how==4||(isB o.side&& !zbn o.side x.price o.price)
/-- all that an order meets, the best ahead -/
def zaN (how:Int)(o:zav)(l:List zav):List zav:=(zbo (zb2 o.side) l).takeWhile (zdF how o)
structure XSt where
 left:Int
 bk:List zav
 fills:List zb7
 gones:List zel
def zck (o:zav)(s:XSt)(x:zav):XSt:=
 if s.left=0 then s else if x.owner=o.owner then⟨s.left,zbR x.id s.bk,s.fills,s.gones++[⟨x.id,x.owner,x.left⟩]⟩
 else⟨s.left - min s.left x.left,if min s.left x.left=x.left then zbR x.id s.bk else zct x.id (x.left - min s.left x.left) s.bk,
  s.fills++[⟨x.id,o.id,x.owner,o.owner,x.price,min s.left x.left,x.left - min s.left x.left⟩],s.gones⟩
def runX (o:zav)(l:List zav)(ms:List zav):XSt:=ms.foldl (zck o) ⟨o.left,l,[],[]⟩
def zb3 (o:zav)(ms:List zav):List zav:=ms.filter fun x=> !(x.owner==o.owner)
def zl2 (how:Int)(o:zav)(l:List zav):Int:=if isB o.side then max (min (sumL (zb3 o (zaN how o l))) o.left) 0 else 0
/-- an order as it is looked at: at the market it has no price -/
def asX (how:Int)(o:zav):zav:=if how=4 then{o with price:=1}else o
def newB (how:Int)(o:zav)(l:List zav):Bool:=decide (0≤how)&&(decide (how≤4)&&(!(how==4&& !(o.price==0))&&(okO (asX how o)&&decide (za0 (zdE o) l<0))))
def zhe (how:Int):Bool:=how==0||how==3
def zb4 (how:Int)(o:zav)(l:List zav):Int:=
 if newB how o l=false then 1 else if zhe how=true∧l.length≥64 then 3 else if how=3∧(zaN how o l).length>0 then 16
 else if how=2∧zl2 how o l<o.left then 17 else 0
structure znj where
 fills:List zb7
 gones:List zel
 left:Int
 err:Int
 bk:List zav
def zhC (how:Int)(o:zav)(s:XSt):List zav:=if zhe how=true∧s.left>0 then addO {o with left:=s.left} s.bk else s.bk
def doV (how:Int)(o:zav)(l:List zav):znj:=
 if zb4 how o l=0 then
  let s:=runX o l (zaN how o l)
  ⟨s.fills,s.gones,s.left,0,zhC how o s⟩
 else⟨[],[],0,zb4 how o l,l⟩
/-! ### the book along the way -/
theorem zaT.drop {l:List zav}(h:zaT l)(id:Int):zaT (zbR id l):=h.sub (zdg id l)
theorem zln {o:zav}{s:XSt}{x:zav}(h:zaT s.bk):zaT (zck o s x).bk:=by
 unfold zck
 split
 ·exact h
 ·split
  ·exact h.drop _
  ·dsimp only
   split
   ·exact h.drop _
   ·exact h.lessAny _ _
theorem zi4 {o:zav}:∀(ms:List zav) (s:XSt),zaT s.bk→zaT (ms.foldl (zck o) s).bk
 |[],_,h=>h
 |x::ms,s,h=>by rw[List.foldl_cons];exact zi4 ms _ (zln h)
theorem zfR {o:zav}{l ms:List zav}(h:zaT l):zaT (runX o l ms).bk:=zi4 ms _ h
theorem znk {how:Int}{o:zav}{l:List zav}(h:zaT l):zaT (doV how o l).bk:=by
 unfold doV
 split
 ·dsimp only
  unfold zhC
  split
  ·exact(zfR h).add _
  ·exact zfR h
 ·exact h
theorem zhD {o:zav}{s:XSt}(h:s.left=0)(x:zav):zck o s x=s:=by unfold zck;rw[if_pos h]
theorem zhE {o:zav}{s:XSt}{x:zav}(hx:1≤x.left)(h:0≤s.left):0≤(zck o s x).left∧(zck o s x).left≤s.left:=by
 unfold zck
 split
 ·exact⟨h,Int.le_refl _⟩
 ·split
  ·exact⟨h,Int.le_refl _⟩
  ·dsimp only;omega
/-! ### the first one gone -/
theorem zfS {l:List zav}(hu:l.Pairwise fun a b=>a.id≠b.id){x:zav}(hx:x∈l):l.Perm (x::zbR x.id l):=by
 rcases zdx (p:=hasO x.id) l with ⟨hi,hf⟩|⟨i,y,hi,hy,hp,hf⟩
 ·have:=zbt.1 (show za0 (hasO x.id) l<0 by omega) x hx
  simp[hasO]at this
 ·have hyx:y=x:=by
   have hyi:y.id=x.id:=by simpa [hasO]using hp
   obtain⟨j,hj⟩:=List.getElem?_of_mem hx
   obtain⟨hil,hie⟩:=gsi.1 hy
   obtain⟨hjl,hje⟩:=gsi.1 hj
   rcases Nat.lt_trichotomy i j with h|h|h
   ·have:=List.pairwise_iff_getElem.1 hu i j hil hjl h
    rw[hie,hje]at this;exact absurd hyi this
   ·subst h;rw[hie]at hje;exact hje
   ·have:=List.pairwise_iff_getElem.1 hu j i hjl hil h
    rw[hie,hje]at this;exact absurd hyi.symm this
  subst hyx
  obtain⟨hil,hie⟩:=gsi.1 hy
  have e:zbR y.id l=l.take i++l.drop (i+1):=by
   unfold zbR
   rw[hi,if_neg (by omega)];simp
  rw[e]
  have:l=l.take i++y::l.drop (i+1):=by
   rw[←hie,List.getElem_cons_drop,List.take_append_drop]
  conv=>lhs;rw[this]
  exact List.perm_middle
/-- the head of a side gone, its tail is left -/
theorem zi5 {s:Int}{l:List zav}(hs:isB s=true)(h:zaT l){x:zav}{r:List zav}(he:zbo s l=x::r):zbo s (zbR x.id l)=r:=by
 have hx:x∈zbo s l:=by rw[he];exact List.mem_cons_self
 have hup:=zdS hs h.seq
 rw[he,List.pairwise_cons]at hup
 refine ziT (p:=zbm s) (fun x y=>zfL x y) (zdS hs (h.drop x.id).seq) hup.2 ?_
 have h1:=(zfS h.id (zca hx).1).filter (za7 s)
 have hsx:za7 s x=true:=by simp[za7,(zca hx).2]
 rw[List.filter_cons,if_pos hsx]at h1
 have h2:(x::r).Perm (x::(zbR x.id l).filter (za7 s)):=by rw[←he];exact(zbC s l).trans h1
 exact(zbC s (zbR x.id l)).trans h2.cons_inv.symm
theorem zhF {how:Int}{o:zav}{l:List zav}(hs:isB o.side=true)(h:zaT l){x:zav}{r:List zav}(he:zaN how o l=x::r):zaN how o (zbR x.id l)=r:=by
 have ho:isB (zb2 o.side)=true:=by rcases zgz hs with h|h<;>simp[zb2,isB,h]
 unfold zaN at he ⊢
 cases hsd:zbo (zb2 o.side) l with
 |nil=>rw[hsd]at he;simp at he
 |cons y t=>
  rw[hsd,List.takeWhile_cons]at he
  split at he
  ·injection he with h1 h2
   subst h1
   rw[zi5 ho h hsd];exact h2
  ·cases he
/-- what is still met after some were -/
theorem zfT {how:Int}{o:zav}{l:List zav}(hs:isB o.side=true)(h:zaT l):∀(k:Nat),k≤(zaN how o l).length→(runX o l ((zaN how o l).take k)).left≠0→
 zaN how o (runX o l ((zaN how o l).take k)).bk=(zaN how o l).drop k:=by
 intro k
 induction k with
 |zero=>intro _ _;rfl
 |succ k ih=>
  intro hk hl
  obtain⟨x,hx⟩:∃x,(zaN how o l)[k]? =some x:=⟨(zaN how o l)[k]'(by omega),gge (by omega)⟩
  have hst:runX o l ((zaN how o l).take (k+1))=zck o (runX o l ((zaN how o l).take k)) x:=by
   unfold runX;rw[List.take_add_one,hx,List.foldl_append];rfl
  rw[hst]at hl ⊢
  have hl0:(runX o l ((zaN how o l).take k)).left≠0:=fun h0=>hl (by rw[zhD h0];exact h0)
  have ihk:=ih (by omega) hl0
  have hd:(zaN how o l).drop k=x::(zaN how o l).drop (k+1):=by
   obtain⟨hkl,hke⟩:=gsi.1 hx
   rw[←hke,List.getElem_cons_drop]
  rw[hd]at ihk
  have hBk:zaT (runX o l ((zaN how o l).take k)).bk:=zfR h
  generalize runX o l ((zaN how o l).take k)=s at hl hl0 ihk hBk ⊢
  have hgone:=zhF hs hBk ihk
  unfold zck at hl ⊢
  rw[if_neg hl0]at hl ⊢
  split
  ·exact hgone
  ·rename_i hown
   rw[if_neg hown]at hl
   dsimp only at hl ⊢
   have hm:min s.left x.left=x.left:=by omega
   rw[if_pos hm];exact hgone
end Go.Proofs.YteocfhdocpeokaaGreat
set_option linter.unusedSimpArgs false
set_option linter.unusedVariables false
namespace Go.Proofs.YteocfhdocpeokaaGreat
open Go Go.Sl
attribute [local irreducible] AW ES EP Ld RetQ
set_option maxRecDepth 100000
def cQ (id:Int)(q:zaH):Int:=cmpI q.id id
def upQ (l:List zaH):Prop:=l.Pairwise fun a b=>a.id<b.id
theorem zi6 {id:Int}{q:zaH}:cQ id q<0↔q.id<id:=by unfold cQ cmpI;split<;>(try split)<;>omega
end Go.Proofs.YteocfhdocpeokaaGreat
set_option linter.unusedSimpArgs false
set_option linter.unusedVariables false
namespace Go.Proofs.YteocfhdocpeokaaGreat
open Go Go.Sl
attribute [local irreducible] AW ES EP Ld RetQ
set_option maxRecDepth 100000
def isOf (dealer:Int)(q:zaH):Bool:=q.dealer==dealer&&q.live
def zi7 (ask:Int)(q:zaH):Bool:=q.ask==ask
/-! ### getting, killing -/
def getQ (id:Int)(l:List zaH):Option zaH:=if bsB (cQ id) l then l[bsN (cQ id) l]? else none
theorem zdh {id:Int}{l:List zaH}(h:bsB (cQ id) l=true):∃x,l[bsN (cQ id) l]? =some x∧x.id=id∧getQ id l=some x:=by
 unfold bsB at h
 split at h
 ·rename_i x hx
  refine⟨x,hx,?_,?_⟩
  ·have:cQ id x=0:=by simpa using h
   unfold cQ cmpI at this;split at this<;>(try split at this)<;>omega
  ·unfold getQ bsB;rw[hx];simp only at h ⊢;rw[if_pos h]
 ·cases h
theorem zem {id:Int}{l:List zaH}(h:bsB (cQ id) l=false):getQ id l=none:=by unfold getQ;rw[h];rfl
def zbV (id:Int)(l:List zaH):List zaH:=match getQ id l with
 |some x=>l.set (bsN (cQ id) l) {x with live:=false}
 |none=>l
/-! ### putting -/
def metQ (q x:zaH):Bool:=x.ask==q.ask&&x.dealer==q.dealer&&x.live
def offQ (q x:zaH):zaH:=if metQ q x then{x with live:=false}else x
def oldQ (q:zaH)(l:List zaH):Int:=l.foldl (fun o x=>if metQ q x then x.id else o) 0
def badQ (q:zaH)(l:List zaH):Bool:=bsB (cQ q.id) l||decide (q.id<1)||decide (q.ask<1)||decide (q.price<1)||decide (q.dealer<0)|| !q.live
def putQ (q:zaH)(l:List zaH):List zaH:=if badQ q l then l else(l.map (offQ q)).take (bsN (cQ q.id) l)++[q]++(l.map (offQ q)).drop (bsN (cQ q.id) l)
end Go.Proofs.YteocfhdocpeokaaGreat
set_option linter.unusedSimpArgs false
set_option linter.unusedVariables false
namespace Go.Proofs.YteocfhdocpeokaaGreat
open Go Go.Sl
attribute [local irreducible] AW ES Ld RetQ
set_option maxRecDepth 100000
theorem zi8 (W:World)(h:List zah)(A:Option Addr)(n c:Nat)(cs:List Value)(hr:zaD W h A n 10 cs)(hb:n*80≤140737488355328):
 zaL Tryz.prog W 102 [.slice A n c] h (fun v h'=>∃A' c',v=.slice A' n c'∧h'=.own A' n c' 87 10 cs::h):=by
 refine zaL.drop ?_
 refine zaA Tryz.func102 rfl rfl Tryz.results102 Tryz.ntmps102 rfl rfl ?_
 refine zaO hr rfl (fun hA=> ?_)
 cases A with
 |none=>
  have hn:n=0:=by
   rcases Nat.eq_zero_or_pos n with h|h
   ·exact h
   ·have:=hA h;simp at this
  subst hn
  have hcs:cs=[]:=List.eq_nil_of_length_eq_zero (by simpa using hr.len)
  subst hcs
  refine zbG (fun w hw=>⟨_,hw.own_nil 87 10,?_⟩)
  repeat' (first
   |apply zaz|apply zaa|apply zay|apply zal|apply zam|apply zae|apply zaw
   |(apply zai hT;(iterate 4 exact rfl))|(apply zaj;(iterate 3 exact rfl))|(apply zad;(iterate 2 exact rfl))
   |(apply zax hT;(iterate 4 exact rfl);(iterate 2 omega))
   |(apply zar [] [] hmix;decide+kernel)
   |(apply zab;(iterate 5 exact rfl);first|exact zas hT rfl rfl mem0 rfl rfl|exact zaq hT rfl rfl mem0 rfl)
   |(apply zab;(iterate 5 exact rfl);first|exact zas hT rfl rfl mem1 rfl rfl|exact zaq hT rfl rfl mem1 rfl)
   |(apply zab;(iterate 5 exact rfl);first|exact zas hT rfl rfl mem2 rfl rfl|exact zaq hT rfl rfl mem2 rfl)
   |(apply zau;(iterate 5 exact rfl);intro _)|(apply zac hT;(iterate 5 exact rfl);intro _)
   |(apply zaf;(iterate 2 exact rfl))|(apply zag;(iterate 2 exact rfl))
   |(apply zak;exact rfl;all_goals intro hb;all_goals(try simp only[hb]);all_goals(first|replace hb:=of_decide_eq_true hb|replace hb:=of_decide_eq_false hb|replace hb:=zao hb|replace hb:=zap hb|skip);all_goals(try(exfalso;omega)))
   |(apply zan;exact rfl;all_goals intro hb;all_goals(try simp only[hb]);all_goals(first|replace hb:=of_decide_eq_true hb|replace hb:=of_decide_eq_false hb|replace hb:=zao hb|replace hb:=zap hb|skip);all_goals(try(exfalso;omega))))
  apply ret1;exact rfl
  exact⟨[],_,plr _,none,0,rfl,rfl⟩
 |some ad=>
  repeat' (first
   |apply zaz|apply zaa|apply zay|apply zal|apply zam|apply zae|apply zaw
   |(apply zai hT;(iterate 4 exact rfl))|(apply zaj;(iterate 3 exact rfl))|(apply zad;(iterate 2 exact rfl))
   |(apply zax hT;(iterate 4 exact rfl);(iterate 2 omega))
   |(apply zar [] [] hmix;decide+kernel)
   |(apply zaI hT;(iterate 12 exact rfl);intro g1)
   |(apply za2 hT;(iterate 10 exact rfl);exact sel0;exact hr.cons;omega;(show(0+n)*80≤_;omega);intro A' c')
   |(apply zab;(iterate 5 exact rfl);first|exact zas hT rfl rfl mem0 rfl rfl|exact zaq hT rfl rfl mem0 rfl)
   |(apply zab;(iterate 5 exact rfl);first|exact zas hT rfl rfl mem1 rfl rfl|exact zaq hT rfl rfl mem1 rfl)
   |(apply zab;(iterate 5 exact rfl);first|exact zas hT rfl rfl mem2 rfl rfl|exact zaq hT rfl rfl mem2 rfl)
   |(apply zau;(iterate 5 exact rfl);intro _)|(apply zac hT;(iterate 5 exact rfl);intro _)
   |(apply zaf;(iterate 2 exact rfl))|(apply zag;(iterate 2 exact rfl))
   |(apply zak;exact rfl;all_goals intro hb;all_goals(try simp only[hb]);all_goals(first|replace hb:=of_decide_eq_true hb|replace hb:=of_decide_eq_false hb|replace hb:=zao hb|replace hb:=zap hb|skip);all_goals(try(exfalso;omega)))
   |(apply zan;exact rfl;all_goals intro hb;all_goals(try simp only[hb]);all_goals(first|replace hb:=of_decide_eq_true hb|replace hb:=of_decide_eq_false hb|replace hb:=zao hb|replace hb:=zap hb|skip);all_goals(try(exfalso;omega))))
  apply ret1;exact rfl
  refine⟨[],_,plr _,A',c',by rw[Nat.zero_add],?_⟩
  show zah.own A' (0+n) c' 87 10 ([]++cs)::h=_
  simp
end Go.Proofs.YteocfhdocpeokaaGreat
set_option linter.unusedSimpArgs false
set_option linter.unusedVariables false
namespace Go.Proofs.YteocfhdocpeokaaGreat
open Go Go.Sl
attribute [local irreducible] AW ES EP Ld RetQ
set_option maxRecDepth 100000
def cA (id:Int)(q:AskR):Int:=cmpI q.id id
def upA (l:List AskR):Prop:=l.Pairwise fun a b=>a.id<b.id
end Go.Proofs.YteocfhdocpeokaaGreat
set_option linter.unusedSimpArgs false
set_option linter.unusedVariables false
namespace Go.Proofs.YteocfhdocpeokaaGreat
open Go Go.Sl
attribute [local irreducible] AW ES EP Ld RetQ
set_option maxRecDepth 100000
def getA (id:Int)(l:List AskR):Option AskR:=if bsB (cA id) l then l[bsN (cA id) l]? else none
theorem zfU {id:Int}{l:List AskR}(h:bsB (cA id) l=true):∃x,l[bsN (cA id) l]? =some x∧x.id=id∧getA id l=some x:=by
 unfold bsB at h
 split at h
 ·rename_i x hx
  refine⟨x,hx,?_,?_⟩
  ·have:cA id x=0:=by simpa using h
   unfold cA cmpI at this;split at this<;>(try split at this)<;>omega
  ·unfold getA bsB;rw[hx];simp only at h ⊢;rw[if_pos h]
 ·cases h
def setA (id:Int)(x:AskR)(l:List AskR):List AskR:=l.set (bsN (cA id) l) x
def zkb (id:Int)(l:List AskR):Int:=match getA id l with
 |none=>4
 |some x=>if x.state=2 then 0 else 11
def zen (id:Int)(l:List AskR):List AskR:=match getA id l with
 |none=>l
 |some x=>if zkb id l=0 then setA id {x with state:=1,hit:=0,until_:=0} l else l
def endE (id state:Int)(l:List AskR):Int:=match getA id l with
 |none=>4
 |some x=>if state≠3∧state≠4 then 1 else if x.state=3∨x.state=4∨(state=3∧x.state≠2)then 11 else 0
def endX (state:Int)(x:AskR):AskR:=if state=4 then{x with state:=state,until_:=0,hit:=0}else{x with state:=state,until_:=0}
def endA (id state:Int)(l:List AskR):List AskR:=match getA id l with
 |none=>l
 |some x=>if endE id state l=0 then setA id (endX state x) l else l
end Go.Proofs.YteocfhdocpeokaaGreat
set_option linter.unusedSimpArgs false
set_option linter.unusedVariables false
namespace Go.Proofs.YteocfhdocpeokaaGreat
open Go Go.Sl
attribute [local irreducible] AW ES Ld RetQ
set_option maxRecDepth 100000
def ordD (a b:Due):Int:=orI [cmpI a.tick b.tick,cmpI a.kind b.kind,cmpI a.id b.id]
def hasD (kind id:Int)(d:Due):Bool:=d.kind==kind&&d.id==id
def zbb (l:List Due)(kind id:Int):List Due:=if za0 (hasD kind id) l<0 then l else l.eraseIdx (za0 (hasD kind id) l).toNat
def zdK (l:List Due)(tick:Int):Nat:=(l.takeWhile fun d=>decide (d.tick≤tick)).length
end Go.Proofs.YteocfhdocpeokaaGreat
set_option linter.unusedSimpArgs false
set_option linter.unusedVariables false
namespace Go.Proofs.YteocfhdocpeokaaGreat
open Go Go.Sl
/-! ### a place -/
structure Rs where
 d:Dk
 id:Int
 outs:List OutR
 err:Int
def bad (d:Dk)(e:Int):Rs:=⟨d,0,[],e⟩
/-! ### trades -/
def zcX (d:Dk)(s who other bond price qty ask:Int):zaB:=
 if s=2 then⟨d.trades.length+1,bond,other,who,price,qty,ask,d.now⟩else⟨d.trades.length+1,bond,who,other,price,qty,ask,d.now⟩
def zfV (d:Dk)(t:zaB):Dk:=
 {d with cash:=(putP ⟨d.cash,d.pos⟩ t).cash,pos:=(putP ⟨d.cash,d.pos⟩ t).pos,trades:=d.trades++[t],head:=(zb1 d.head.toNat (zbu t):Nat)}
/-! ### orders -/
def zgA (d:Dk)(n:Int):Bool:=decide (0≤n)&&decide (n<d.books.length)
def zcQ (d:Dk)(n:Int):za1:=(at0 d.bonds n).getD ⟨1,1,1,1,1,1,true⟩
def zbe (d:Dk)(n:Nat):List zav:=d.books.getD n []
structure FSt where
 d:Dk
 outs:List OutR
 rest:Int
def zcl (who:Int)(o:zav)(n:Nat)(s:FSt)(f:zb7):FSt:=
 let rest:=s.rest - f.qty
 let t:=zcX s.d o.side who f.mparty n f.price f.qty 0
 ⟨zfV s.d t,s.outs++[outM f.mparty 20 [f.maker,f.price,f.qty,f.left],outM who 20 [o.id,f.price,f.qty,rest]]++zbz t,rest⟩
def zb5 (d:Dk)(who:Int)(n:Nat)(o:zav)(how:Int):Rs:=
 let v:=doV how {o with seq:=d.seq+1} (zbe d n)
 if v.err≠0 then bad d v.err else
 let s:=v.fills.foldl (zcl who o n) ⟨{d with seq:=d.seq+1,books:=d.books.set n v.bk},v.gones.map fun g=>outM who 21 [g.id,g.left],o.left⟩
 ⟨s.d,0,if how≠0∧how≠3∧v.left>0 then s.outs++[outM who 21 [o.id,v.left]]else s.outs,0⟩
def zkc (bs:List (List zav))(id:Int):Int:=za0 (fun l=>(getO id l).isSome) bs
def zhf (d:Dk)(who kind id price qty:Int):Rs:=
 let n:=zkc d.books id
 if n<0 then bad d 4 else
 match getO id (zbe d n.toNat)with
 |none=>bad d 4
 |some o=>
  if o.owner≠who then bad d 5
  else if kind=8 then
   (if zkR (zcQ d n) price qty≠0 then bad d (zkR (zcQ d n) price qty)
   else if price=o.price∧qty≤o.left then⟨{d with books:=d.books.set n.toNat (zct o.id qty (zbe d n.toNat))},id,[],zdJ o.id qty (zbe d n.toNat)⟩
   else{zb5 {d with books:=d.books.set n.toNat (zbR o.id (zbe d n.toNat))} who n.toNat {o with price:=price,left:=qty} 0 with id:=id})
  else⟨{d with books:=d.books.set n.toNat (zbR id (zbe d n.toNat))},id,[outM who 21 [id,o.left]],0⟩
/-! ### requests -/
def zkd (d:Dk)(q:zaH):Bool:=match getA q.ask d.asks with
 |none=>false
 |some a=>a.state==2&&a.hit==q.id
def zi9 (d:Dk)(id:Int):Dk:=
 {d with quotes:=d.quotes.filter fun q=> !zi7 id q,due:=zbb (zbb ((d.quotes.filter (zi7 id)).foldl (fun l q=>zbb l 3 q.id) d.due) 1 id) 2 id}
def zfi (d:Dk)(a:AskR):Dk:=zi9 {d with asks:=endA a.id 4 d.asks} a.id
def zl3 (a:AskR):List OutR:=[outM a.client 27 [a.id]]
def zaS (rf:Bool)(d:Dk)(a:AskR):Dk×List OutR:=
 let d1:={d with quotes:=zbV a.hit d.quotes,due:=if rf then zbb (zbb d.due 3 a.hit) 2 a.id else d.due}
 if d.now≥a.ends then(zfi d1 a,zl3 a)else({d1 with asks:=zen a.id d.asks},[outM a.client 25 [a.id,a.hit]])
def zl4 (d:Dk)(n is:Int):Rs:=
 if zgA d n=false then bad d 4 else if is≠0∧is≠1 then bad d 1 else⟨{d with bonds:=d.bonds.set n.toNat {zcQ d n with halted:=is==1}},n,[],0⟩
/-! ### what is asked, ticks, who is gone -/
def dueD (rf:Bool)(s:Dk×List OutR)(x:Due):Dk×List OutR:=
 if x.kind=3 then({s.1 with quotes:=zbV x.id s.1.quotes},s.2)
 else match getA x.id s.1.asks with
 |none=>s
 |some a=>if x.kind=2∧a.state=2 then(let r:=zaS rf s.1 a;(r.1,s.2++r.2))else if x.kind=1∧a.state=1 then(zfi s.1 a,s.2++zl3 a)else s
def zfj (rf:Bool)(d:Dk):Dk×List OutR:=
 (d.due.take (zdK d.due (d.now+1))).foldl (dueD rf) ({d with now:=d.now+1,due:=d.due.drop (zdK d.due (d.now+1))},[])
def zgB (who s:Int)(l:List zav):List zav:=(zbo s l).filter fun o=>o.owner==who
def zhG (who:Int)(l:List zav):List zav:=(zgB who 2 l).foldl (fun l o=>zbR o.id l) ((zgB who 1 l).foldl (fun l o=>zbR o.id l) l)
def zdL (rf:Bool)(d:Dk)(q:zaH):Dk:=if zkd d q then d else{d with quotes:=zbV q.id d.quotes,due:=zbb d.due 3 q.id}
def zeJ (rf:Bool)(d:Dk)(who:Int):Dk×List OutR:=
 ((d.quotes.filter (isOf who)).foldl (zdL rf) {d with books:=d.books.map (zhG who)},
   d.books.flatMap fun l=>(zgB who 1 l++zgB who 2 l).map fun o=>outM who 21 [o.id,o.left])
end Go.Proofs.YteocfhdocpeokaaGreat
set_option linter.unusedSimpArgs false
set_option linter.unusedVariables false
namespace Go.Proofs.YteocfhdocpeokaaGreat
open Go Go.Sl
theorem zfW {α:Type}{R:α→α→Prop}{p:α→Bool}(hm:∀x y,R x y→p y=true→p x=true):∀{l:List α},l.Pairwise R→l.takeWhile p=l.filter p
 |[],_=>rfl
 |x::l,h=>by
  rw[List.pairwise_cons]at h
  cases hp:p x
  ·rw[List.takeWhile_cons,List.filter_cons,hp]
   have:l.filter p=[]:=by
    rw[List.filter_eq_nil_iff]
    intro y hy hpy
    rw[hm x y (h.1 y hy) hpy]at hp;cases hp
   simp[this]
  ·rw[List.takeWhile_cons,List.filter_cons,hp,if_pos rfl,if_pos rfl,zfW hm h.2]
theorem zhH {how:Int}{o:zav}(hs:isB o.side=true)(x y:zav)(h:zbm (zb2 o.side) x y=true)(hy:zdF how o y=true):zdF how o x=true:=by
 unfold zdF at*
 by_cases hh:how=4
 ·simp[hh]
 ·rcases zgz hs with e|e
  ·simp[e,zb2,isB,zbn,hh,zbm]at*
   split at h<;>simp_all<;>omega
  ·simp[e,zb2,isB,zbn,hh,zbm]at*
   split at h<;>simp_all<;>omega
theorem zfX {how:Int}{o:zav}{l:List zav}(hs:isB o.side=true)(h:zaT l):zaN how o l=(zbo (zb2 o.side) l).filter (zdF how o):=by
 have ho:isB (zb2 o.side)=true:=by rcases zgz hs with h|h<;>simp[zb2,isB,h]
 exact zfW (fun x y hxy hy=>zhH hs x y hxy hy) (zdS ho h.seq)
end Go.Proofs.YteocfhdocpeokaaGreat
set_option linter.unusedSimpArgs false
set_option linter.unusedVariables false
namespace Go.Proofs.YteocfhdocpeokaaGreat
open Go Go.Sl
attribute [local irreducible] AW ES EP Ld RetQ
set_option maxRecDepth 100000
theorem zbS {how:Int}{o:zav}{l:List zav}{x:zav}(h:x∈zaN how o l):x∈l∧x.side=zb2 o.side:=zca ((List.takeWhile_prefix _).subset h)
theorem zja (how:Int)(o:zav)(l:List zav):(zaN how o l).length≤l.length:=Nat.le_trans (List.takeWhile_prefix _).length_le (zfN _ _)
theorem zjb {how:Int}{o:zav}{l:List zav}(h:newB how o l=true):isB o.side=true:=by
 unfold newB at h
 simp only[Bool.and_eq_true]at h
 have:=zhb h.2.2.2.1
 unfold asX at this
 split at this<;>exact this
end Go.Proofs.YteocfhdocpeokaaGreat
set_option linter.unusedSimpArgs false
set_option linter.unusedVariables false
namespace Go.Proofs.YteocfhdocpeokaaGreat
open Go Go.Sl
attribute [local irreducible] AW ES EP Ld RetQ
set_option maxRecDepth 100000
theorem zeo {o:zav}{l ms:List zav}{k:Nat}{x:zav}(hx:ms[k]? =some x):runX o l (ms.take (k+1))=zck o (runX o l (ms.take k)) x:=by
 unfold runX;rw[List.take_add_one,hx,List.foldl_append];rfl
theorem zhI {o:zav}{s:XSt}{x:zav}:(zck o s x).fills.length≤s.fills.length+1∧(zck o s x).gones.length≤s.gones.length+1:=by
 unfold zck
 split
 ·omega
 ·split<;>simp
theorem zcE {o:zav}{l ms:List zav}(hl:∀x∈ms,1≤x.left)(ho:0≤o.left):∀k,k≤ms.length→0≤(runX o l (ms.take k)).left∧(runX o l (ms.take k)).left≤o.left∧(runX o l (ms.take k)).fills.length≤k∧(runX o l (ms.take k)).gones.length≤k:=by
 intro k
 induction k with
 |zero=>intro _;exact⟨ho,Int.le_refl _,Nat.le_refl _,Nat.le_refl _⟩
 |succ k ih=>
  intro hk
  obtain⟨x,hx⟩:∃x,ms[k]? =some x:=⟨ms[k]'(by omega),gge (by omega)⟩
  rw[zeo hx]
  have h1:=ih (by omega)
  have h2:=zhE (o:=o) (s:=runX o l (ms.take k)) (hl x (mog hx)) h1.1
  have h3:=zhI (o:=o) (s:=runX o l (ms.take k)) (x:=x)
  omega
theorem zdi {how:Int}{o:zav}{l:List zav}(h:newB how o l=true):1≤o.left∧o.left≤1000000:=by
 unfold newB at h
 simp only[Bool.and_eq_true]at h
 have:=zhc h.2.2.2.1
 unfold asX at this
 split at this<;>exact this
end Go.Proofs.YteocfhdocpeokaaGreat
set_option linter.unusedSimpArgs false
set_option linter.unusedVariables false
namespace Go.Proofs.YteocfhdocpeokaaGreat
open Go Go.Sl
def sumQ (f:List zb7):Int:=(f.map zb7.qty).sum
theorem zhg (a b:List zb7):sumQ (a++b)=sumQ a+sumQ b:=by simp only[sumQ,List.map_append];exact zdy _ _
theorem zcF {how:Int}{o:zav}{l:List zav}(h:zb4 how o l=0):newB how o l=true:=by
 cases hn:newB how o l
 ·unfold zb4 at h;rw[if_pos hn]at h;omega
 ·rfl
/-- what was filled, and of whom -/
structure znl (o:zav)(f:zb7)(x:zav):Prop where
 maker:f.maker=x.id
 taker:f.taker=o.id
 mparty:f.mparty=x.owner
 tparty:f.tparty=o.owner
 price:f.price=x.price
 left:f.left=x.left - f.qty
 qty:1≤f.qty
 own:x.owner≠o.owner
/-- along the way -/
structure WayX (o:zav)(l:List zav)(done:List zav)(s:XSt):Prop where
 sum:sumQ s.fills=o.left - s.left
 left:s.left=o.left - min o.left (sumL (zb3 o done))
 mks:∃xs:List zav,xs.Sublist done∧xs.length=s.fills.length∧(∀(i:Nat) f x,s.fills[i]? =some f→xs[i]? =some x→znl o f x∧(f.left≠0→s.left=0∧i+1=s.fills.length))
 sub:∀y∈s.bk,∃x∈l,y.id=x.id∧y.seq=x.seq∧y.side=x.side∧y.price=x.price∧y.owner=x.owner
 len:s.bk.length≤l.length
theorem zdj {id:Int}{l:List zav}{y:zav}(h:y∈zbR id l):y∈l:=(zdg id l).subset h
theorem zfY {id left:Int}{l:List zav}{y:zav}(h:y∈zct id left l):∃x∈l,y.id=x.id∧y.seq=x.seq∧y.side=x.side∧y.price=x.price∧y.owner=x.owner:=by
 unfold zct at h
 split at h
 ·exact⟨y,h,rfl,rfl,rfl,rfl,rfl⟩
 ·rename_i x hx
  split at h
  ·rcases List.mem_or_eq_of_mem_set h with h|h
   ·exact⟨y,h,rfl,rfl,rfl,rfl,rfl⟩
   ·exact⟨x,List.mem_of_find?_eq_some hx,by rw[h],by rw[h],by rw[h],by rw[h],by rw[h]⟩
  ·exact⟨y,h,rfl,rfl,rfl,rfl,rfl⟩
theorem zjc (id left:Int)(l:List zav):(zct id left l).length=l.length:=by
 unfold zct
 split
 ·rfl
 ·split
  ·simp
  ·rfl
theorem zfZ (o:zav)(a:List zav)(x:zav):sumL (zb3 o (a++[x]))=sumL (zb3 o a)+if x.owner=o.owner then 0 else x.left:=by
 unfold zb3
 rw[List.filter_append,zej]
 by_cases h:x.owner=o.owner<;>simp[h,sumL]
theorem zjd (o:zav)(l:List zav)(ho:0≤o.left):WayX o l [] ⟨o.left,l,[],[]⟩ where
 sum:=by simp[sumQ]
 left:=by simp[zb3,sumL];omega
 mks:=⟨[],List.Sublist.refl _,rfl,fun i f x h=>by simp at h⟩
 sub:=fun y hy=>⟨y,hy,rfl,rfl,rfl,rfl,rfl⟩
 len:=Nat.le_refl _
theorem zke {o:zav}{l done:List zav}{s:XSt}{x:zav}(h:WayX o l done s)(hd:∀y∈done,1≤y.left)(hx:1≤x.left)(hl:0≤s.left)(ho:0≤o.left):WayX o l (done++[x]) (zck o s x):=by
 have hpos:0≤sumL (zb3 o done):=by
  have key:∀m:List zav,(∀y∈m,1≤y.left)→0≤sumL m:=by
   intro m
   induction m with
   |nil=>intro _;simp[sumL]
   |cons y m ih=>intro hm;have:=hm y List.mem_cons_self;have:=ih (fun z hz=>hm z (List.mem_cons_of_mem _ hz));simp only[sumL,List.map_cons,List.sum_cons]at *;omega
  exact key _ (fun y hy=>hd y (List.mem_filter.1 hy).1)
 have hs:=h.sum
 have hle:=h.left
 obtain⟨xs,hx1,hx2,hx3⟩:=h.mks
 have hsum:=zfZ o done x
 unfold zck
 split
 ·rename_i h0
  refine⟨hs,?_,⟨xs,hx1.trans (List.sublist_append_left _ _),hx2,hx3⟩,h.sub,h.len⟩
  rw[hsum];split<;>omega
 ·rename_i h0
  split
  ·rename_i hown
   refine⟨hs,?_,⟨xs,hx1.trans (List.sublist_append_left _ _),hx2,?_⟩,fun y hy=>h.sub y (zdj hy),Nat.le_trans (zdg _ _).length_le h.len⟩
   ·rw[hsum,if_pos hown];dsimp only;omega
   ·exact hx3
  ·rename_i hown
   refine⟨?_,?_,⟨xs++[x],hx1.append (List.Sublist.refl _),by simp[hx2],?_⟩,?_,?_⟩
   ·rw[zhg];dsimp only;simp only[sumQ,List.map_cons,List.map_nil,List.sum_cons,List.sum_nil]at hs ⊢;omega
   ·rw[hsum,if_neg hown];dsimp only;omega
   ·intro i f y hf hy
    dsimp only at hf ⊢
    rcases Nat.lt_trichotomy i s.fills.length with hi|hi|hi
    ·rw[List.getElem?_append_left hi]at hf
     rw[List.getElem?_append_left (by omega)]at hy
     obtain⟨k1,k2⟩:=hx3 i f y hf hy
     exact⟨k1,fun hne=>absurd (k2 hne).1 h0⟩
    ·subst hi
     rw[List.getElem?_append_right (Nat.le_refl _),Nat.sub_self]at hf
     rw[←hx2,List.getElem?_append_right (Nat.le_refl _),Nat.sub_self]at hy
     simp only[List.getElem?_cons_zero,Option.some.injEq]at hf hy
     subst hf hy
     refine⟨⟨rfl,rfl,rfl,rfl,rfl,rfl,by dsimp only;omega,hown⟩,fun hne=> ?_⟩
     dsimp only at hne ⊢
     refine⟨by omega,by simp⟩
    ·rw[List.getElem?_eq_none (by simp;omega)]at hf;cases hf
   ·dsimp only
    intro y hy
    split at hy
    ·exact h.sub y (zdj hy)
    ·obtain⟨z,hz,e1,e2,e3,e4,e5⟩:=zfY hy
     obtain⟨x',hx',k1,k2,k3,k4,k5⟩:=h.sub z hz
     exact⟨x',hx',by rw[e1,k1],by rw[e2,k2],by rw[e3,k3],by rw[e4,k4],by rw[e5,k5]⟩
   ·dsimp only
    split
    ·exact Nat.le_trans (zdg _ _).length_le h.len
    ·rw[zjc];exact h.len
theorem zlo {o:zav}{l ms:List zav}(hm:∀y∈ms,1≤y.left)(ho:0≤o.left):WayX o l ms (runX o l ms):=by
 have key:∀k,k≤ms.length→WayX o l (ms.take k) (runX o l (ms.take k)):=by
  intro k
  induction k with
  |zero=>intro _;exact zjd o l ho
  |succ k ih=>
   intro hk
   obtain⟨x,hx⟩:∃x,ms[k]? =some x:=⟨ms[k]'(by omega),gge (by omega)⟩
   have h1:=ih (by omega)
   have h2:=(zcE (o:=o) (l:=l) hm ho k (by omega)).1
   rw[zeo hx,List.take_add_one,hx]
   exact zke h1 (fun y hy=>hm y (List.mem_of_mem_take hy)) (hm x (mog hx)) h2 ho
 have:=key ms.length (Nat.le_refl _)
 rw[List.take_length]at this
 exact this
/-- an order that may come, all of it -/
theorem zep {how:Int}{o:zav}{l:List zav}(hB:zaT l)(h0:zb4 how o l=0):WayX o l (zaN how o l) (runX o l (zaN how o l))∧(doV how o l).fills=(runX o l (zaN how o l)).fills∧(doV how o l).left=(runX o l (zaN how o l)).left∧(doV how o l).err=0:=by
 have hol:=zdi (zcF h0)
 refine⟨zlo (fun y hy=>(hB.left y (zbS hy).1).1) (by omega),?_⟩
 unfold doV
 rw[if_pos h0]
 exact⟨rfl,rfl,rfl⟩
theorem zf0 {how:Int}{o:zav}{l:List zav}(hB:zaT l):(doV how o l).fills.length≤64∧(doV how o l).gones.length≤64:=by
 unfold doV
 split
 ·rename_i h0
  have hol:=zdi (zcF h0)
  have hml:=zja how o l
  have hbl:=hB.len
  have:=zcE (o:=o) (l:=l) (ms:=zaN how o l) (fun x hx=>(hB.left x (zbS hx).1).1) (by omega) (zaN how o l).length (Nat.le_refl _)
  rw[List.take_length]at this
  dsimp only
  omega
 ·simp
theorem zeq {how:Int}{o:zav}{l:List zav}(h0:zb4 how o l≠0):doV how o l=⟨[],[],0,zb4 how o l,l⟩:=by unfold doV;rw[if_neg h0]
/-- the one of an id -/
theorem zkf {l:List zav}(hu:l.Pairwise fun a b=>a.id≠b.id){x:zav}(hx:x∈l):getO x.id l=some x:=by
 rcases zdx (p:=hasO x.id) l with ⟨hi,hf⟩|⟨i,y,hi,hy,hp,hf⟩
 ·have:=zbt.1 (show za0 (hasO x.id) l<0 by omega) x hx
  simp[hasO]at this
 ·have hyi:y.id=x.id:=by simpa [hasO]using hp
  have hyx:y=x:=by
   obtain⟨j,hj⟩:=List.getElem?_of_mem hx
   obtain⟨hil,hie⟩:=gsi.1 hy
   obtain⟨hjl,hje⟩:=gsi.1 hj
   rcases Nat.lt_trichotomy i j with h|h|h
   ·have:=List.pairwise_iff_getElem.1 hu i j hil hjl h
    rw[hie,hje]at this;exact absurd hyi this
   ·subst h;rw[hie]at hje;exact hje
   ·have:=List.pairwise_iff_getElem.1 hu j i hjl hil h
    rw[hie,hje]at this;exact absurd hyi.symm this
  rw[←hyx];exact(show getO y.id l=some y by rw[hyi];exact hf)
end Go.Proofs.YteocfhdocpeokaaGreat
set_option linter.unusedSimpArgs false
set_option linter.unusedVariables false
namespace Go.Proofs.YteocfhdocpeokaaGreat
open Go Go.Sl
attribute [local irreducible] AW ES EP Ld RetQ
set_option maxRecDepth 100000
/-! ### the table's own law: of one ask and one dealer one is live at most -/
def oneQ (l:List zaH):Prop:=l.Pairwise fun a b=>a.live=true→b.live=true→¬(a.ask=b.ask∧a.dealer=b.dealer)
structure TabQ (l:List zaH):Prop where
 up:upQ l
 one:oneQ l
theorem zer (q x:zaH):(offQ q x).id=x.id:=by unfold offQ;split<;>rfl
theorem zfk (q x:zaH):(offQ q x).ask=x.ask:=by unfold offQ;split<;>rfl
theorem zcY (q x:zaH):(offQ q x).dealer=x.dealer:=by unfold offQ;split<;>rfl
theorem zes {q x:zaH}(h:(offQ q x).live=true):x.live=true∧¬(x.ask=q.ask∧x.dealer=q.dealer):=by
 unfold offQ at h
 split at h
 ·cases h
 ·rename_i hm
  refine⟨h,fun e=>hm ?_⟩
  simp[metQ,e.1,e.2,h]
theorem zf1 {id:Int}{l:List zaH}(hup:upQ l)(h:bsB (cQ id) l=false):∀x∈l,x.id≠id:=by
 intro x hx he
 obtain⟨i,hi⟩:=List.getElem?_of_mem hx
 have hb:bsN (cQ id) l=i:=zkM (by have:=(gsi.1 hi).1;omega) (fun k y hk hy=>by
  rw[zi6]
  obtain⟨h1,rfl⟩:=gsi.1 hi
  obtain⟨h2,rfl⟩:=gsi.1 hy
  have:=List.pairwise_iff_getElem.1 hup k i h2 h1 hk
  omega) (fun y hy=>by rw[hi]at hy;cases hy;rw[zi6];omega)
 unfold bsB at h
 rw[hb,hi]at h
 simp[cQ,cmpI,he]at h
theorem zkg {q:zaH}{l:List zaH}(h:TabQ l):TabQ (putQ q l):=by
 unfold putQ
 split
 ·exact h
 ·rename_i hb
  have hbad:badQ q l=false:=by simpa using hb
  simp only[badQ,Bool.or_eq_false_iff]at hbad
  have hB:=hbad.1.1.1.1.1
  have hne:=zf1 h.up hB
  have hup2:upQ (l.map (offQ q)):=by
   unfold upQ;rw[List.pairwise_map]
   exact h.up.imp (fun{a b} hab=>by rw[zer,zer];exact hab)
  have hone2:oneQ (l.map (offQ q)):=by
   unfold oneQ;rw[List.pairwise_map]
   exact h.one.imp (fun{a b} hab ha hb=>by rw[zfk,zfk,zcY,zcY];exact hab (zes ha).1 (zes hb).1)
  have hbs:bsN (cQ q.id) l=((l.map (offQ q)).takeWhile fun x=>decide (x.id<q.id)).length:=by
   unfold bsN
   rw[List.takeWhile_map,llm]
   congr 2
   funext x
   simp only[Function.comp,zer]
   exact decide_eq_decide.2 zi6
  refine⟨zlM (f:=zaH.id) hup2 (fun x hx=> ?_) hbs,?_⟩
  ·obtain⟨y,hy,rfl⟩:=lmm.1 hx
   rw[zer];exact hne y hy
  ·refine((zdP (l.map (offQ q)) q _).pairwise_iff (fun{a b} hab ha hb hk=>hab hb ha ⟨hk.1.symm,hk.2.symm⟩)).2 ?_
   rw[List.pairwise_cons]
   refine⟨fun x hx _ hxl hk=> ?_,hone2⟩
   obtain⟨y,hy,rfl⟩:=lmm.1 hx
   rw[zfk,zcY]at hk
   exact(zes hxl).2 ⟨hk.1.symm,hk.2.symm⟩
end Go.Proofs.YteocfhdocpeokaaGreat
set_option linter.unusedSimpArgs false
set_option linter.unusedVariables false
namespace Go.Proofs.YteocfhdocpeokaaGreat
open Go Go.Sl
attribute [local irreducible] AW ES EP Ld RetQ
set_option maxRecDepth 100000
structure zkh where
 kind:Int
 ask:AskR
def zkh.enc (a:zkh):List Value:=.int .i64 a.kind::a.ask.enc
theorem zkh.enc_len (a:zkh):a.enc.length=11:=rfl
end Go.Proofs.YteocfhdocpeokaaGreat
set_option linter.unusedSimpArgs false
set_option linter.unusedVariables false
namespace Go.Proofs.YteocfhdocpeokaaGreat
open Go Go.Sl
attribute [local irreducible] AW ES EP Ld RetQ
set_option maxRecDepth 100000
theorem zje {id:Int}{l:List AskR}{x y:AskR}(hup:upA l)(hx:l[bsN (cA id) l]? =some x)(he:y.id=x.id):upA (setA id y l):=by
 unfold upA setA at*
 rw[←List.pairwise_map (f:=AskR.id) (R:=(·<·))]at hup ⊢
 obtain⟨hlt,hxe⟩:=gsi.1 hx
 have:(l.set (bsN (cA id) l) y).map AskR.id=l.map AskR.id:=by
  rw[List.map_set,he,←hxe]
  apply List.ext_getElem?
  intro i
  by_cases hi:bsN (cA id) l=i
  ·subst hi;rw[List.getElem?_set_self (by simpa using hlt)];simp[hlt]
  ·rw[List.getElem?_set_ne hi]
 rw[this];exact hup
theorem gotX {id:Int}{l:List AskR}{x:AskR}(h:getA id l=some x):l[bsN (cA id) l]? =some x:=by
 unfold getA at h;split at h
 ·exact h
 ·cases h
theorem zhh {id:Int}{l:List AskR}(h:upA l):upA (zen id l)∧(zen id l).length=l.length:=by
 unfold zen
 split
 ·exact⟨h,rfl⟩
 ·rename_i x hx
  split
  ·exact⟨zje h (gotX hx) rfl,by simp[setA]⟩
  ·exact⟨h,rfl⟩
theorem zgC {id state:Int}{l:List AskR}(h:upA l):upA (endA id state l)∧(endA id state l).length=l.length:=by
 unfold endA
 split
 ·exact⟨h,rfl⟩
 ·rename_i x hx
  split
  ·exact⟨zje h (gotX hx) (by unfold endX;split<;>rfl),by simp[setA]⟩
  ·exact⟨h,rfl⟩
end Go.Proofs.YteocfhdocpeokaaGreat
set_option linter.unusedSimpArgs false
set_option linter.unusedVariables false
namespace Go.Proofs.YteocfhdocpeokaaGreat
open Go Go.Sl
def ltD (a b:Due):Prop:=a.tick<b.tick∨(a.tick=b.tick∧(a.kind<b.kind∨(a.kind=b.kind∧a.id<b.id)))
def keyD (a b:Due):Prop:=a.kind=b.kind∧a.id=b.id
theorem zki {a b:Due}:ordD a b<0↔ltD a b:=by
 unfold ordD ltD
 simp only[orI,cmpI]
 repeat' split
 all_goals omega
theorem zjf {a b c:Due}(h1:ltD a b)(h2:ltD b c):ltD a c:=by unfold ltD at *;omega
/-- a row as it should be: rising, and each key once -/
structure RowD (l:List Due):Prop where
 up:l.Pairwise ltD
 once:l.Pairwise fun a b=>¬keyD a b
theorem zfl {kind id:Int}{d:Due}:hasD kind id d=true↔d.kind=kind∧d.id=id:=by simp[hasD]
theorem zjg {α:Type}{p:α→Bool}{l:List α}:za0 p l<0↔∀x∈l,p x=false:=by
 constructor
 ·intro h x hx
  induction l with
  |nil=>cases hx
  |cons y l ih=>
   unfold za0 at h
   split at h
   ·omega
   ·rename_i hp
    have h1:za0 p l<0:=by
     simp only at h
     split at h
     ·assumption
     ·omega
    rcases List.mem_cons.1 hx with rfl|hx
    ·simpa using hp
    ·exact ih h1 hx
 ·intro h
  have:=zbA (p:=p) (l:=l) (fun j y hj=>h y (mog hj))
  omega
theorem zet {α:Type}{p:α→Bool}:∀{l:List α} {i:Nat},za0 p l=(i:Int)→∃x,l[i]? =some x∧p x=true
 |[],i,h=>by simp[za0]at h
 |y::l,i,h=>by
  unfold za0 at h
  split at h
  ·rename_i hp;obtain rfl:i=0:=by omega
   exact⟨y,rfl,hp⟩
  ·simp only at h
   split at h
   ·omega
   ·obtain⟨k,rfl⟩:∃k,i=k+1:=⟨i - 1,by omega⟩
    obtain⟨x,hx,hpx⟩:=zet (p:=p) (l:=l) (i:=k) (by omega)
    exact⟨x,by simpa using hx,hpx⟩
theorem RowD.mono {l:List Due}(h:RowD l){d:Due}:∀(i j:Nat) x y,i≤j→l[i]? =some x→l[j]? =some y→ordD y d<0→ordD x d<0:=by
 intro i j x y hij hx hy hd
 rw[zki]at*
 rcases Nat.lt_or_ge i j with hlt|hge
 ·obtain⟨hi,rfl⟩:=gsi.1 hx
  obtain⟨hj,rfl⟩:=gsi.1 hy
  exact zjf (List.pairwise_iff_getElem.1 h.up i j hi hj hlt) hd
 ·obtain rfl:i=j:=by omega
  rw[hx]at hy;cases hy;exact hd
theorem RowD.nil :RowD []:=⟨List.Pairwise.nil,List.Pairwise.nil⟩
theorem RowD.sub {l m:List Due}(h:RowD l)(hs:m.Sublist l):RowD m:=⟨h.up.sublist hs,h.once.sublist hs⟩
theorem zby {l:List Due}{kind id:Int}:(zbb l kind id).Sublist l:=by
 unfold zbb
 split
 ·exact List.Sublist.refl _
 ·exact List.eraseIdx_sublist _ _
theorem zhJ {l:List Due}{kind id:Int}(h:RowD l):∀x∈zbb l kind id,¬(x.kind=kind∧x.id=id):=by
 unfold zbb
 split
 ·rename_i hi
  rw[zjg]at hi
  intro x hx hk
  have:=hi x hx
  rw[zfl.2 hk]at this
  cases this
 ·rename_i hi
  obtain⟨k,hk⟩:∃k:Nat,za0 (hasD kind id) l=k:=⟨(za0 (hasD kind id) l).toNat,by omega⟩
  obtain⟨y,hy,hpy⟩:=zet hk
  rw[zfl]at hpy
  rw[hk,Int.toNat_natCast]
  intro x hx hkx
  obtain⟨i,hxi,hge⟩:∃i,l[i]? =some x∧i≠k:=by
   obtain⟨i,hi2⟩:=List.getElem?_of_mem hx
   rw[List.getElem?_eraseIdx]at hi2
   split at hi2
   ·exact⟨i,hi2,by omega⟩
   ·exact⟨i+1,hi2,by omega⟩
  obtain⟨hi1,rfl⟩:=gsi.1 hxi
  obtain⟨hk1,rfl⟩:=gsi.1 hy
  rcases Nat.lt_or_gt_of_ne hge with hlt|hlt
  ·exact List.pairwise_iff_getElem.1 h.once i k hi1 hk1 hlt ⟨hkx.1.trans hpy.1.symm,hkx.2.trans hpy.2.symm⟩
  ·exact List.pairwise_iff_getElem.1 h.once k i hk1 hi1 hlt ⟨hpy.1.trans hkx.1.symm,hpy.2.trans hkx.2.symm⟩
theorem zhK {l:List Due}{tick:Int}{x:Due}(h:x∈l.take (zdK l tick)):x.tick≤tick:=by
 have:=zbD (p:=fun d:Due=>decide (d.tick≤tick)) (l:=l) x h
 simpa using this
/-- a number that a cell of 64 digits can hold -/
def I64 (n:Int):Prop:= -9223372036854775808≤n∧n≤9223372036854775807
def Due.ok (d:Due):Prop:=I64 d.tick∧I64 d.kind∧I64 d.id
end Go.Proofs.YteocfhdocpeokaaGreat
set_option linter.unusedSimpArgs false
set_option linter.unusedVariables false
namespace Go.Proofs.YteocfhdocpeokaaGreat
open Go Go.Sl
/-! ### lists -/
theorem za6 {α:Type}{l:List α}{i:Nat}{x y:α}(h:y∈l.set i x):y=x∨y∈l:=(List.mem_or_eq_of_mem_set h).symm
theorem zbp {id:Int}{l:List AskR}{a:AskR}(h:getA id l=some a):a∈l∧a.id=id:=by
 unfold getA at h
 split at h
 ·rename_i hb
  obtain⟨x,hx,hi,_⟩:=zfU hb
  rw[hx]at h
  cases h
  exact⟨mog hx,hi⟩
 ·cases h
theorem zkj {id:Int}{l:List zaH}{q:zaH}(h:getQ id l=some q):q∈l∧q.id=id:=by
 unfold getQ at h
 split at h
 ·rename_i hb
  obtain⟨x,hx,hi,_⟩:=zdh hb
  rw[hx]at h
  cases h
  exact⟨mog hx,hi⟩
 ·cases h
/-- what of a request never changes -/
def zdk (x y:AskR):Prop:=y.id=x.id∧y.client=x.client∧y.bond=x.bond∧y.side=x.side∧y.qty=x.qty∧y.dealers=x.dealers∧y.ends=x.ends
theorem zf2 {id:Int}{l:List AskR}{x z y:AskR}(hx:getA id l=some x)(hs:zdk x z)(h:y∈setA id z l):∃u∈l,zdk u y:=by
 rcases za6 h with rfl|h
 ·exact⟨x,(zbp hx).1,hs⟩
 ·exact⟨y,h,rfl,rfl,rfl,rfl,rfl,rfl,rfl⟩
theorem zcb {l:List AskR}{y:AskR}(h:y∈l):∃u∈l,zdk u y:=⟨y,h,rfl,rfl,rfl,rfl,rfl,rfl,rfl⟩
theorem zeY {id:Int}{l:List AskR}{y:AskR}(h:y∈zen id l):∃u∈l,zdk u y:=by
 unfold zen at h
 split at h
 ·exact zcb h
 ·rename_i x hx
  split at h
  ·exact zf2 hx (by exact⟨rfl,rfl,rfl,rfl,rfl,rfl,rfl⟩) h
  ·exact zcb h
theorem zf3 (state:Int)(x:AskR):zdk x (endX state x):=by
 unfold endX
 split<;>exact⟨rfl,rfl,rfl,rfl,rfl,rfl,rfl⟩
theorem zeu {id state:Int}{l:List AskR}{y:AskR}(h:y∈endA id state l):∃u∈l,zdk u y:=by
 unfold endA at h
 split at h
 ·exact zcb h
 ·rename_i x hx
  split at h
  ·exact zf2 hx (zf3 _ _) h
  ·exact zcb h
/-- what of a quote never changes -/
def zf4 (x y:zaH):Prop:=y.id=x.id∧y.ask=x.ask∧y.dealer=x.dealer∧y.price=x.price∧y.expires=x.expires
theorem zf5 {l:List zaH}{y:zaH}(h:y∈l):∃u∈l,zf4 u y:=⟨y,h,rfl,rfl,rfl,rfl,rfl⟩
theorem zeZ {id:Int}{l:List zaH}{y:zaH}(h:y∈zbV id l):∃u∈l,zf4 u y:=by
 unfold zbV at h
 split at h
 ·rename_i x hx
  rcases za6 h with rfl|h
  ·exact⟨x,(zkj hx).1,rfl,rfl,rfl,rfl,rfl⟩
  ·exact zf5 h
 ·exact zf5 h
theorem zjh (id:Int)(l:List zaH):(zbV id l).length=l.length:=by
 unfold zbV
 split
 ·simp
 ·rfl
theorem zkk {id:Int}{l:List zaH}(h:upQ l):upQ (zbV id l):=by
 unfold zbV
 split
 ·rename_i x hx
  unfold getQ at hx
  split at hx
  ·rename_i hb
   unfold upQ at h ⊢
   rw[List.pairwise_iff_getElem]at h ⊢
   intro i j hi hj hij
   simp only[List.length_set]at hi hj
   have:=h i j hi hj hij
   have hid:∀k (hk:k<l.length),((l.set (bsN (cQ id) l) {x with live:=false})[k]'(by simpa using hk)).id=l[k].id:=by
    intro k hk
    rw[List.getElem_set]
    split
    ·rename_i he
     subst he
     rw[gge hk]at hx
     cases hx
     rfl
    ·rfl
   rw[hid i hi,hid j hj]
   exact this
  ·cases hx
 ·exact h
/-! ### books -/
theorem zkl {o y:zav}{l:List zav}(h:y∈addO o l):y=o∨y∈l:=by
 unfold addO at h
 split at h
 ·rcases lma.1 h with h|h
  ·exact .inr h
  ·exact .inl (lms.1 h)
 ·exact .inr h
theorem zgD {how:Int}{o y:zav}{l:List zav}(hB:zaT l)(h:y∈(doV how o l).bk):(∃x∈l,y.id=x.id∧y.seq=x.seq∧y.owner=x.owner)∨(y.id=o.id∧y.seq=o.seq∧y.owner=o.owner):=by
 by_cases h0:zb4 how o l=0
 ·obtain⟨hw,_⟩:=zep hB h0
  unfold doV at h
  rw[if_pos h0]at h
  dsimp only at h
  unfold zhC at h
  split at h
  ·rcases zkl h with rfl|h
   ·exact .inr ⟨rfl,rfl,rfl⟩
   ·obtain⟨x,hx,a,b,_,_,c⟩:=hw.sub y h
    exact .inl ⟨x,hx,a,b,c⟩
  ·obtain⟨x,hx,a,b,_,_,c⟩:=hw.sub y h
   exact .inl ⟨x,hx,a,b,c⟩
 ·rw[zeq h0]at h
  exact .inl ⟨y,h,rfl,rfl,rfl⟩
theorem zgE :∀{l:List zb7},(∀f∈l,1≤f.qty)→∀f∈l,f.qty≤sumQ l∧0≤sumQ l
 |[],_,f,hf=>by cases hf
 |x::l,h,f,hf=>by
  have e:sumQ (x::l)=x.qty+sumQ l:=by simp[sumQ]
  have h0:0≤sumQ l:=by
   cases l with
   |nil=>simp[sumQ]
   |cons y l=>exact(zgE (fun f hf=>h f (List.mem_cons_of_mem _ hf)) y List.mem_cons_self).2
  have hx:=h x List.mem_cons_self
  rcases List.mem_cons.1 hf with rfl|hf
  ·omega
  ·have:=(zgE (fun f hf=>h f (List.mem_cons_of_mem _ hf)) f hf).1
   omega
theorem zji {how:Int}{o:zav}{l:List zav}(hB:zaT l):∀f∈(doV how o l).fills,1≤f.qty∧f.qty≤1000000:=by
 by_cases h0:zb4 how o l=0
 ·obtain⟨hw,e1,e2,_⟩:=zep hB h0
  have hol:=zdi (zcF h0)
  rw[e1]
  generalize runX o l (zaN how o l)=s at*
  obtain⟨xs,hsub,hlen,hf⟩:=hw.mks
  have hq:∀f∈s.fills,1≤f.qty:=by
   intro f hfm
   obtain⟨i,hi⟩:=List.getElem?_of_mem hfm
   have hil:=(gsi.1 hi).1
   exact(hf i f (xs[i]'(by omega)) hi (gge _)).1.qty
  have hl0:0≤s.left:=by
   rw[hw.left]
   have:min o.left (sumL (zb3 o (zaN how o l)))≤o.left:=Int.min_le_left _ _
   omega
  intro f hfm
  have:=(zgE hq f hfm).1
  rw[hw.sum]at this
  exact⟨hq f hfm,by omega⟩
 ·rw[zeq h0]
  intro f hf;cases hf
end Go.Proofs.YteocfhdocpeokaaGreat
set_option linter.unusedSimpArgs false
set_option linter.unusedVariables false
namespace Go.Proofs.YteocfhdocpeokaaGreat
open Go Go.Sl
def zf6 (s:Dk)(a:AskR):Prop:=(1≤a.id∧a.id≤s.ask)∧(0≤a.bond∧a.bond<s.bonds.length)∧isB a.side=true∧(1≤a.qty∧a.qty≤1000000)∧(0≤a.client∧a.client<s.parties.length)∧(0≤a.dealers∧a.dealers≤18446744073709551615)∧(1≤a.ends∧a.ends≤s.now+1000)
def zcu (s:Dk)(q:zaH):Prop:=(1≤q.id∧q.id≤s.quote)∧(0≤q.dealer∧q.dealer<s.parties.length)∧(1≤q.price∧q.price≤1000000)∧(1≤q.expires∧q.expires≤s.now+1000)
structure DOK (N:Nat)(s:Dk):Prop where
 rules:isR s.bonds s.parties s.look s.beat=true
 nbk:s.books.length=s.bonds.length
 bks:∀l∈s.books,zaT l
 bid:∀l∈s.books,∀o∈l,o.id≤s.order∧o.seq≤s.seq
 order:0≤s.order∧s.order≤N
 seq:0≤s.seq∧s.seq≤N
 now:0≤s.now∧s.now≤N
 quote:0≤s.quote∧s.quote≤N
 ask:0≤s.ask∧s.ask≤N
 nus:s.used.length=s.parties.length
 us:∀u∈s.used,0≤u∧u≤9223372036854775807
 upq:upQ s.quotes
 nq:s.quotes.length≤N
 qs:∀q∈s.quotes,zcu s q
 upa:upA s.asks
 na:s.asks.length≤N
 as_:∀a∈s.asks,zf6 s a
 row:RowD s.due
 nd:s.due.length≤N
 ncash:s.cash.length=s.parties.length
 cash:∀n∈s.cash,inW n
 npos:s.pos.length=s.parties.length
 pos:∀r∈s.pos,r.length=s.bonds.length∧∀n∈r,inW n
 nt:s.trades.length≤64*N
 head:0≤s.head∧s.head≤18446744073709551615
theorem zf6.mono {s t:Dk}{a:AskR}(h:zf6 s a)(h1:s.ask≤t.ask)(h2:t.bonds.length=s.bonds.length)(h3:t.parties.length=s.parties.length)(h4:s.now≤t.now):zf6 t a:=by
 obtain⟨⟨a1,a2⟩,⟨b1,b2⟩,c,d,⟨e1,e2⟩,f,⟨g1,g2⟩⟩:=h
 exact⟨⟨a1,by omega⟩,⟨b1,by omega⟩,c,d,⟨e1,by omega⟩,f,⟨g1,by omega⟩⟩
theorem zf6.same {s:Dk}{x y:AskR}(h:zf6 s x)(hs:zdk x y):zf6 s y:=by
 obtain⟨a,b,c,d,e,f,g⟩:=hs
 unfold zf6 at*
 rw[a,b,c,d,e,f,g];exact h
theorem zcu.mono {s t:Dk}{q:zaH}(h:zcu s q)(h1:s.quote≤t.quote)(h3:t.parties.length=s.parties.length)(h4:s.now≤t.now):zcu t q:=by
 obtain⟨⟨a1,a2⟩,⟨b1,b2⟩,c,⟨d1,d2⟩⟩:=h
 exact⟨⟨a1,by omega⟩,⟨b1,by omega⟩,c,⟨d1,by omega⟩⟩
theorem zcu.same {s:Dk}{x y:zaH}(h:zcu s x)(hs:zf4 x y):zcu s y:=by
 obtain⟨a,b,c,d,e⟩:=hs
 unfold zcu at*
 rw[a,c,d,e];exact h
theorem DOK.up {N:Nat}{s:Dk}(h:DOK N s):DOK (N+1) s:=by
 obtain⟨h1,h2,h3,h4,h5,h6,h7,h8,h9,h10,h11,h12,h13,h14,h15,h16,h17,h18,h19,h20,h21,h22,h23,h24,h25⟩:=h
 exact⟨h1,h2,h3,h4,by omega,by omega,by omega,by omega,by omega,h10,h11,h12,by omega,h14,h15,by omega,h17,h18,by omega,h20,h21,h22,h23,by omega,h25⟩
/-! ### parts -/
/-- the requests, the quotes, and what is due turn -/
theorem DOK.turn {N:Nat}{s:Dk}(h:DOK N s)(qs:List zaH)(as':List AskR)(ds:List Due)(hq:upQ qs)(hq1:qs.length≤N)(hq2:∀y∈qs,∃u∈s.quotes,zf4 u y)
 (ha:upA as') (ha1:as'.length≤N) (ha2:∀y∈as',∃u∈s.asks,zdk u y) (hd:RowD ds) (hd1:ds.length≤N):DOK N {s with quotes:=qs,asks:=as',due:=ds}:=
 ⟨h.rules,h.nbk,h.bks,h.bid,h.order,h.seq,h.now,h.quote,h.ask,h.nus,h.us,hq,hq1,fun y hy=>by
   obtain⟨u,hu,hs⟩:=hq2 y hy
   exact((h.qs u hu).mono (t:={s with quotes:=qs,asks:=as',due:=ds}) (Int.le_refl _) rfl (Int.le_refl _)).same hs,ha,ha1,fun y hy=>by
   obtain⟨u,hu,hs⟩:=ha2 y hy
   exact((h.as_ u hu).mono (t:={s with quotes:=qs,asks:=as',due:=ds}) (Int.le_refl _) rfl rfl (Int.le_refl _)).same hs,hd,hd1,h.ncash,h.cash,h.npos,h.pos,h.nt,h.head⟩
theorem zbf {l:List Due}{kind id:Int}(h:RowD l):RowD (zbb l kind id):=h.sub zby
theorem zcG (l:List Due)(kind id:Int):(zbb l kind id).length≤l.length:=zby.length_le
theorem zcc :∀(qs:List zaH) {l:List Due},RowD l→RowD (qs.foldl (fun l q=>zbb l 3 q.id) l)
 |[],l,h=>h
 |q::qs,l,h=>by rw[List.foldl_cons];exact zcc qs (zbf h)
theorem zf7 :∀(qs:List zaH) (l:List Due),(qs.foldl (fun l q=>zbb l 3 q.id) l).length≤l.length
 |[],l=>Nat.le_refl _
 |q::qs,l=>by
  rw[List.foldl_cons]
  exact Nat.le_trans (zf7 qs _) (zcG _ _ _)
theorem DOK.clear {N:Nat}{s:Dk}(h:DOK N s)(id:Int):DOK N (zi9 s id):=
 h.turn _ s.asks _ (h.upq.filter _) (Nat.le_trans (List.length_filter_le _ _) h.nq) (fun y hy=>zf5 (List.mem_filter.1 hy).1) h.upa h.na (fun y hy=>zcb hy)
  (zbf (zbf (zcc _ h.row))) (Nat.le_trans (zcG _ _ _) (Nat.le_trans (zcG _ _ _) (Nat.le_trans (zf7 _ _) h.nd)))
theorem DOK.asks {N:Nat}{s:Dk}(h:DOK N s){as':List AskR}(ha:upA as'∧as'.length=s.asks.length)(ha2:∀y∈as',∃u∈s.asks,zdk u y):DOK N {s with asks:=as'}:=
 h.turn s.quotes as' s.due h.upq h.nq (fun y hy=>zf5 hy) ha.1 (by rw[ha.2];exact h.na) ha2 h.row h.nd
theorem DOK.dies {N:Nat}{s:Dk}(h:DOK N s)(a:AskR):DOK N (zfi s a):=(h.asks (zgC h.upa) (fun y hy=>zeu hy)).clear a.id
theorem DOK.kill {N:Nat}{s:Dk}(h:DOK N s)(id:Int){ds:List Due}(hd:RowD ds)(hd1:ds.length≤N):DOK N {s with quotes:=zbV id s.quotes,due:=ds}:=
 h.turn _ s.asks _ (zkk h.upq) (by rw[zjh];exact h.nq) (fun y hy=>zeZ hy) h.upa h.na (fun y hy=>zcb hy) hd hd1
theorem DOK.lookEnds {N:Nat}{rf:Bool}{s:Dk}(h:DOK N s)(a:AskR):DOK N (zaS rf s a).1:=by
 have h1:DOK N {s with quotes:=zbV a.hit s.quotes,due:=if rf then zbb (zbb s.due 3 a.hit) 2 a.id else s.due}:=by
  refine h.kill a.hit ?_ ?_
  ·split
   ·exact zbf (zbf h.row)
   ·exact h.row
  ·split
   ·exact Nat.le_trans (zcG _ _ _) (Nat.le_trans (zcG _ _ _) h.nd)
   ·exact h.nd
 unfold zaS
 dsimp only
 split
 ·exact h1.dies a
 ·exact h1.asks (zhh h1.upa) (fun y hy=>zeY hy)
theorem DOK.dueOne {N:Nat}{rf:Bool}{s:Dk×List OutR}(h:DOK N s.1)(x:Due):DOK N (dueD rf s x).1:=by
 unfold dueD
 split
 ·exact h.kill x.id h.row h.nd
 ·split
  ·exact h
  ·split
   ·exact h.lookEnds _
   ·split
    ·exact h.dies _
    ·exact h
theorem DOK.dueAll {N:Nat}{rf:Bool}:∀(xs:List Due) {s:Dk×List OutR},DOK N s.1→DOK N (xs.foldl (dueD rf) s).1
 |[],s,h=>h
 |x::xs,s,h=>by rw[List.foldl_cons];exact DOK.dueAll xs (h.dueOne x)
theorem DOK.tick {N:Nat}{rf:Bool}{s:Dk}(h:DOK N s):DOK (N+1) (zfj rf s).1:=by
 unfold zfj
 refine DOK.dueAll _ ?_
 have h':=h.up
 have hn:=h.now
 exact⟨h'.rules,h'.nbk,h'.bks,h'.bid,h'.order,h'.seq,⟨by show 0≤s.now+1;omega,by show s.now+1≤((N+1:Nat):Int);omega⟩,h'.quote,h'.ask,h'.nus,h'.us,h'.upq,h'.nq,
  fun q hq=>(h'.qs q hq).mono (Int.le_refl _) rfl (by show s.now≤s.now+1;omega),h'.upa,h'.na,fun a ha=>(h'.as_ a ha).mono (Int.le_refl _) rfl rfl (by show s.now≤s.now+1;omega),
  h'.row.sub (List.drop_sublist _ _),Nat.le_trans (List.drop_sublist _ _).length_le h'.nd,h'.ncash,h'.cash,h'.npos,h'.pos,h'.nt,h'.head⟩
theorem DOK.books {N:Nat}{s:Dk}(h:DOK N s){bs:List (List zav)}(h1:bs.length=s.books.length)(h2:∀l∈bs,zaT l)(h3:∀l∈bs,∀o∈l,o.id≤s.order∧o.seq≤s.seq):DOK N {s with books:=bs}:=
 ⟨h.rules,h1.trans h.nbk,h2,h3,h.order,h.seq,h.now,h.quote,h.ask,h.nus,h.us,h.upq,h.nq,h.qs,h.upa,h.na,h.as_,h.row,h.nd,h.ncash,h.cash,h.npos,h.pos,h.nt,h.head⟩
theorem zev :∀(os l:List zav),(∀y∈os.foldl (fun l o=>zbR o.id l) l,y∈l)∧(zaT l→zaT (os.foldl (fun l o=>zbR o.id l) l))
 |[],l=>⟨fun y h=>h,fun h=>h⟩
 |o::os,l=>by
  obtain⟨h1,h2⟩:=zev os (zbR o.id l)
  rw[List.foldl_cons]
  exact⟨fun y hy=>zdj (h1 y hy),fun h=>h2 (h.drop _)⟩
theorem zcv {who:Int}{l:List zav}:(∀y∈zhG who l,y∈l)∧(zaT l→zaT (zhG who l)):=by
 unfold zhG
 obtain⟨a1,a2⟩:=zev (zgB who 1 l) l
 obtain⟨b1,b2⟩:=zev (zgB who 2 l) ((zgB who 1 l).foldl (fun l o=>zbR o.id l) l)
 exact⟨fun y hy=>a1 y (b1 y hy),fun h=>b2 (a2 h)⟩
theorem DOK.goneOne {N:Nat}{rf:Bool}{s:Dk}(h:DOK N s)(q:zaH):DOK N (zdL rf s q):=by
 unfold zdL
 split
 ·exact h
 ·exact h.kill q.id (zbf h.row) (Nat.le_trans (zcG _ _ _) h.nd)
theorem DOK.goneAll {N:Nat}{rf:Bool}:∀(qs:List zaH) {s:Dk},DOK N s→DOK N (qs.foldl (zdL rf) s)
 |[],s,h=>h
 |q::qs,s,h=>by rw[List.foldl_cons];exact DOK.goneAll qs (h.goneOne q)
theorem DOK.gone {N:Nat}{rf:Bool}{s:Dk}(h:DOK N s)(who:Int):DOK N (zeJ rf s who).1:=by
 unfold zeJ
 refine DOK.goneAll _ (h.books (by simp) (fun l hl=> ?_) (fun l hl o ho=> ?_))
 ·obtain⟨m,hm,rfl⟩:=lmm.1 hl
  exact zcv.2 (h.bks m hm)
 ·obtain⟨m,hm,rfl⟩:=lmm.1 hl
  exact h.bid m hm o (zcv.1 o ho)
/-! ### trades -/
theorem zkm (p:Ps)(t:zaB):(putP p t).cash.length=p.cash.length∧(putP p t).pos.length=p.pos.length:=by
 unfold putP setRow
 split<;>simp
theorem zlp {α:Type}{l:List α}{i:Int}{x:α}(h:at0 l i=some x):x∈l:=by
 unfold at0 at h
 split at h
 ·cases h
 ·exact mog h
theorem zf8 {l:List (List Int)}{who bond n:Int}{b:Nat}(h:∀r∈l,r.length=b∧∀n∈r,inW n)(hw:0≤who∧who<l.length)(hn:inW n):∀r∈setRow l who bond n,r.length=b∧∀n∈r,inW n:=by
 intro r hr
 unfold setRow at hr
 rcases za6 hr with rfl|hr
 ·have hx:at0 l who=some (l[who.toNat]'(by omega)):=by
   unfold at0
   rw[if_neg (by omega)]
   exact gge _
  obtain⟨h1,h2⟩:=h _ (zlp hx)
  rw[hx]
  refine⟨by simpa using h1,fun m hm=> ?_⟩
  rcases za6 hm with rfl|hm
  ·exact hn
  ·exact h2 m hm
 ·exact h r hr
theorem zlq {p:Ps}{t:zaB}{b:Nat}(hl:p.pos.length=p.cash.length)(hc:∀n∈p.cash,inW n)(hp:∀r∈p.pos,r.length=b∧∀n∈r,inW n):(∀n∈(putP p t).cash,inW n)∧∀r∈(putP p t).pos,r.length=b∧∀n∈r,inW n:=by
 unfold putP
 split
 ·rename_i h0
  unfold putE at h0
  split at h0
  ·cases h0
  ·rename_i h1
   split at h0
   ·rename_i h2
    simp only[Bool.and_eq_true]at h2
    obtain⟨⟨⟨⟨a1,a2⟩,a3⟩,a4⟩,a5⟩:=h2
    have hb:∀who,zbU p who t.bond=true→0≤who∧who<p.cash.length:=fun who h=>by
     unfold zbU at h
     simp only[Bool.and_eq_true,decide_eq_true_eq]at h
     exact⟨h.1,h.2.1⟩
    have hb1:=hb t.buyer (by cases h:zbU p t.buyer t.bond with|true=>rfl|false=>exact absurd (.inl h) h1)
    have hb2:=hb t.seller (by cases h:zbU p t.seller t.bond with|true=>rfl|false=>exact absurd (.inr (.inl h)) h1)
    refine⟨fun n hn=> ?_,?_⟩
    ·rcases za6 hn with rfl|hn
     ·exact zdI a5
     ·rcases za6 hn with rfl|hn
      ·exact zdI a4
      ·exact hc n hn
    ·refine zf8 (zf8 hp (by omega) (zdI a2)) ?_ (zdI a3)
     unfold setRow
     simp only[List.length_set]
     omega
   ·cases h0
 ·exact⟨hc,hp⟩
theorem zfm {a b:Nat}(ha:a<2^64)(hb:b<2^64):a ^^^ b<2^64:=Nat.xor_lt_two_pow ha hb
theorem zgF :∀(bs:List Nat) {x:Nat},x<2^64→bs.foldl mixN x<2^64
 |[],x,h=>h
 |b::bs,x,h=>by
  rw[List.foldl_cons]
  exact zgF bs (Nat.mod_lt _ (by decide))
theorem zf9 {last:Nat}{bs:List Nat}(h:last<2^64):zb1 last bs<2^64:=by
 unfold zb1
 have h1:bs.foldl mixN (last ^^^ 1469598103934665603)<2^64:=zgF bs (zfm h (by decide))
 exact zfm h1 (Nat.lt_of_le_of_lt (Nat.div_le_self _ _) h1)
/-- a desk with a trade more: all but how many there are -/
structure DOKt (N M:Nat)(s:Dk):Prop where
 ok:DOK N {s with trades:=[]}
 nt:s.trades.length≤M
theorem DOKt.all {N M:Nat}{s:Dk}(h:DOKt N M s)(hM:M≤64*N):DOK N s:=
 let h':=h.ok
 ⟨h'.rules,h'.nbk,h'.bks,h'.bid,h'.order,h'.seq,h'.now,h'.quote,h'.ask,h'.nus,h'.us,h'.upq,h'.nq,h'.qs,h'.upa,h'.na,h'.as_,h'.row,h'.nd,h'.ncash,h'.cash,h'.npos,h'.pos,Nat.le_trans h.nt hM,h'.head⟩
theorem DOKt.trade {N M:Nat}{s:Dk}(h:DOKt N M s)(t:zaB):DOKt N (M+1) (zfV s t):=by
 have h':=h.ok
 have hl:=zkm ⟨s.cash,s.pos⟩ t
 have ho:=zlq (p:=⟨s.cash,s.pos⟩) (t:=t) (b:=s.bonds.length) (h'.npos.trans h'.ncash.symm) h'.cash h'.pos
 have hh:s.head.toNat<2^64:=by have h9:0≤s.head∧s.head≤18446744073709551615:=h'.head;show s.head.toNat<18446744073709551616;omega
 have hc:=zf9 (bs:=zbu t) hh
 refine⟨⟨h'.rules,h'.nbk,h'.bks,h'.bid,h'.order,h'.seq,h'.now,h'.quote,h'.ask,h'.nus,h'.us,h'.upq,h'.nq,h'.qs,h'.upa,h'.na,h'.as_,h'.row,h'.nd,hl.1.trans h'.ncash,ho.1,hl.2.trans h'.npos,ho.2,Nat.zero_le _,?_⟩,?_⟩
 ·show 0≤((zb1 s.head.toNat (zbu t):Nat):Int)∧((zb1 s.head.toNat (zbu t):Nat):Int)≤18446744073709551615
  omega
 ·show(s.trades++[t]).length≤M+1
  have:=h.nt
  simp;omega
theorem DOKt.fills {N:Nat}{who:Int}{o:zav}{n:Nat}:∀(fs:List zb7) {M:Nat} {s:FSt},DOKt N M s.d→DOKt N (M+fs.length) (fs.foldl (zcl who o n) s).d
 |[],M,s,h=>h
 |f::fs,M,s,h=>by
  rw[List.foldl_cons]
  have:=DOKt.fills (who:=who) (o:=o) (n:=n) fs (s:=zcl who o n s f) (h.trade (zcX s.d o.side who f.mparty n f.price f.qty 0))
  rw[List.length_cons,show M+(fs.length+1)=M+1+fs.length by omega]
  exact this
end Go.Proofs.YteocfhdocpeokaaGreat
set_option linter.unusedSimpArgs false
set_option linter.unusedVariables false
namespace Go.Proofs.YteocfhdocpeokaaGreat
open Go Go.Sl
theorem zga {bs:List za1}{ps:List zaJ}{look beat:Int}(h:isR bs ps look beat=true):(1≤bs.length∧bs.length≤4)∧(1≤ps.length∧ps.length≤8)∧(1≤look∧look≤1000)∧(∀b∈bs,zdB b=true)∧(∀p∈ps,zcq p (zbP ps ps.length)=true):=by
 unfold isR at h
 simp only[Bool.and_eq_true,List.all_eq_true]at h
 obtain⟨⟨h1,h2⟩,⟨⟨h3,h4⟩,h5⟩,h6⟩:=h
 have h1:=zcV h1
 have h2:=zcV h2
 have h5:=zcV h5
 exact⟨by omega,by omega,h5,h3,h4⟩
theorem zlr {s:Dk}{n:Int}(hl:s.books.length=s.bonds.length)(h:zgA s n=true):(0≤n∧n<s.books.length)∧s.bonds[n.toNat]? =some (zcQ s n)∧zcQ s n∈s.bonds:=by
 unfold zgA at h
 simp only[Bool.and_eq_true,decide_eq_true_eq]at h
 have hlt:n.toNat<s.bonds.length:=by omega
 have e:s.bonds[n.toNat]? =some (zcQ s n):=by
  unfold zcQ at0
  rw[if_neg (by omega),gge hlt];rfl
 exact⟨h,e,mog e⟩
theorem ze0 {who:Int}{o:zav}{n:Nat}(m:Int):∀(fs:List zb7) (d:Dk) (outs:List OutR) (rest:Int),(fs.foldl (zcl who o n) ⟨{d with order:=m},outs,rest⟩).d={(fs.foldl (zcl who o n) ⟨d,outs,rest⟩).d with order:=m}
 |[],d,outs,rest=>rfl
 |f::fs,d,outs,rest=>by
  rw[List.foldl_cons,List.foldl_cons]
  exact ze0 m fs (zfV d (zcX d o.side who f.mparty n f.price f.qty 0)) _ _
theorem DOK.meets {N:Nat}{s:Dk}(h:DOK N s){who:Int}{n:Nat}{o:zav}{how m:Int}(hn:n<s.books.length)(ho:o.id≤m)(hm:s.order≤m∧m≤((N+1:Nat):Int)):DOK (N+1) {(zb5 s who n o how).d with order:=m}:=by
 have h':=h.up
 have ho0:=h.order
 have hs0:=h.seq
 have hbk:zbe s n∈s.books:=by
  unfold zbe
  rw[List.getD_eq_getElem?_getD,gge hn]
  exact List.getElem_mem hn
 have hB:=h.bks _ hbk
 unfold zb5
 dsimp only
 split
 ·exact⟨h'.rules,h'.nbk,h'.bks,fun l hl o ho=>⟨Int.le_trans (h'.bid l hl o ho).1 hm.1,(h'.bid l hl o ho).2⟩,⟨by show 0≤m;omega,hm.2⟩,h'.seq,h'.now,h'.quote,h'.ask,h'.nus,h'.us,h'.upq,h'.nq,h'.qs,h'.upa,h'.na,h'.as_,h'.row,h'.nd,h'.ncash,h'.cash,h'.npos,h'.pos,h'.nt,h'.head⟩
 ·show DOK (N+1) {(List.foldl _ _ _:FSt).d with order:=m}
  rw[←ze0]
  have hlen:=(zf0 (how:=how) (o:={o with seq:=s.seq+1}) hB).1
  have hin:∀l∈s.books.set n (doV how {o with seq:=s.seq+1} (zbe s n)).bk,zaT l∧∀x∈l,x.id≤m∧x.seq≤s.seq+1:=by
   intro l hl
   rcases za6 hl with rfl|hl
   ·refine⟨znk hB,fun x hx=> ?_⟩
    rcases zgD hB hx with ⟨y,hy,e1,e2,_⟩|⟨e1,e2,_⟩
    ·have:=h.bid _ hbk y hy
     omega
    ·have e1':x.id=o.id:=e1
     have e2':x.seq=s.seq+1:=e2
     omega
   ·refine⟨h.bks l hl,fun x hx=> ?_⟩
    have:=h.bid l hl x hx
    omega
  have hN:((N+1:Nat):Int)=(N:Int)+1:=by omega
  refine(DOKt.fills _ (N:=N+1) (M:=64*N) (s:=⟨{s with seq:=s.seq+1,books:=s.books.set n (doV how {o with seq:=s.seq+1} (zbe s n)).bk,order:=m},_,_⟩) ?_).all (by omega)
  exact⟨⟨h'.rules,by show(s.books.set n _).length=_;rw[List.length_set];exact h'.nbk,fun l hl=>(hin l hl).1,fun l hl=>(hin l hl).2,⟨by show 0≤m;omega,hm.2⟩,⟨by show 0≤s.seq+1;omega,by show s.seq+1≤_;omega⟩,h'.now,h'.quote,h'.ask,h'.nus,h'.us,h'.upq,h'.nq,h'.qs,h'.upa,h'.na,h'.as_,h'.row,h'.nd,h'.ncash,h'.cash,h'.npos,h'.pos,Nat.zero_le _,h'.head⟩,h.nt⟩
theorem zew {who:Int}{o:zav}{n:Nat}:∀(fs:List zb7) (s:FSt),(fs.foldl (zcl who o n) s).d.order=s.d.order
 |[],s=>rfl
 |f::fs,s=>by rw[List.foldl_cons,zew fs];rfl
theorem zgG {s:Dk}{who:Int}{n:Nat}{o:zav}{how:Int}:(zb5 s who n o how).d.order=s.order:=by
 unfold zb5
 dsimp only
 split
 ·rfl
 ·show(List.foldl _ _ _:FSt).d.order=s.order
  rw[zew]
theorem DOK.meets0 {N:Nat}{s:Dk}(h:DOK N s){who:Int}{n:Nat}{o:zav}{how:Int}(hn:n<s.books.length)(ho:o.id≤s.order):DOK (N+1) (zb5 s who n o how).d:=by
 have h2:=h.order
 have h1:=h.meets (who:=who) (how:=how) hn ho ⟨Int.le_refl _,by omega⟩
 have e:(zb5 s who n o how).d.order=s.order:=zgG
 generalize (zb5 s who n o how).d=x at h1 e
 rw[←e]at h1
 exact h1
theorem DOK.halt {N:Nat}{s:Dk}(h:DOK N s)(n is:Int):DOK N (zl4 s n is).d:=by
 unfold zl4
 split
 ·exact h
 ·split
  ·exact h
  ·rename_i h1 h2
   obtain⟨_,_,hm⟩:=zlr h.nbk (n:=n) (by simpa using h1)
   have hr:isR (s.bonds.set n.toNat {zcQ s n with halted:=is==1}) s.parties s.look s.beat=true:=by
    have h0:=h.rules
    unfold isR at h0 ⊢
    simp only[Bool.and_eq_true,List.all_eq_true,List.length_set]at h0 ⊢
    refine⟨h0.1,⟨⟨fun b hb=> ?_,h0.2.1.1.2⟩,h0.2.1.2⟩,h0.2.2⟩
    rcases za6 hb with rfl|hb
    ·have hq:=h0.2.1.1.1 (zcQ s n) hm
     exact hq
    ·exact h0.2.1.1.1 _ hb
   have hl:(s.bonds.set n.toNat {zcQ s n with halted:=is==1}).length=s.bonds.length:=by simp
   exact⟨hr,h.nbk.trans hl.symm,h.bks,h.bid,h.order,h.seq,h.now,h.quote,h.ask,h.nus,h.us,h.upq,h.nq,h.qs,h.upa,h.na,fun a ha=>(h.as_ a ha).mono (Int.le_refl _) hl rfl (Int.le_refl _),h.row,h.nd,h.ncash,h.cash,h.npos,fun r hr=>⟨(h.pos r hr).1.trans hl.symm,(h.pos r hr).2⟩,h.nt,h.head⟩
theorem zkn {bs:List (List zav)}{id:Int}(h:¬zkc bs id<0):∃(i:Nat) (l:List zav),zkc bs id=i∧bs[i]? =some l∧(getO id l).isSome=true:=by
 unfold zkc at*
 rcases zdx (p:=fun l=>(getO id l).isSome) bs with ⟨hi,_⟩|⟨i,x,hi,hx,hp,_⟩
 ·omega
 ·exact⟨i,x,hi,hx,hp⟩
theorem zls {id:Int}{l:List zav}{o:zav}(h:getO id l=some o):o∈l∧o.id=id:=by
 unfold getO at h
 have h1:=List.find?_some h
 exact⟨List.mem_of_find?_eq_some h,by simpa [hasO]using h1⟩
theorem DOK.setBook {N:Nat}{s:Dk}(h:DOK N s){n:Nat}{l m:List zav}(hl:s.books[n]? =some l)(hB:zaT m)(hm:∀y∈m,∃x∈l,y.id=x.id∧y.seq=x.seq):DOK N {s with books:=s.books.set n m}:=by
 refine h.books (by simp) (fun k hk=> ?_) (fun k hk o ho=> ?_)
 ·rcases za6 hk with rfl|hk
  ·exact hB
  ·exact h.bks k hk
 ·rcases za6 hk with rfl|hk
  ·obtain⟨x,hx,e1,e2⟩:=hm o ho
   have:=h.bid l (mog hl) x hx
   omega
  ·exact h.bid k hk o ho
theorem zaT.lessAll {l:List zav}(h:zaT l)(id left:Int):zaT (zct id left l):=by
 by_cases hE:zdJ id left l=0
 ·exact h.less hE
 ·rw[zhd hE];exact h
theorem DOK.changes {N:Nat}{s:Dk}(h:DOK N s)(who kind id price qty:Int):DOK (N+1) (zhf s who kind id price qty).d:=by
 unfold zhf
 dsimp only
 split
 ·exact h.up
 ·rename_i hn
  obtain⟨n,l,e1,e2,e3⟩:=zkn hn
  have hnl:=(gsi.1 e2).1
  have hat:zbe s n=l:=by unfold zbe;rw[List.getD_eq_getElem?_getD,e2];rfl
  rw[e1]
  simp only[Int.toNat_natCast,hat]
  have hB:=h.bks l (mog e2)
  have hdrop:∀k,DOK N {s with books:=s.books.set n (zbR k l)}:=fun k=>h.setBook e2 (hB.drop _) (fun y hy=>⟨y,zdj hy,rfl,rfl⟩)
  split
  ·exact h.up
  ·rename_i o ho
   have hoi:=zls ho
   split
   ·exact h.up
   ·split
    ·split
     ·exact h.up
     ·split
      ·exact(h.setBook e2 (hB.lessAll _ _) (fun y hy=>by
        obtain⟨x,hx,a,b,_⟩:=zfY hy
        exact⟨x,hx,a,b⟩)).up
      ·have hk:=hdrop o.id
       have h1:=h.bid l (mog e2) o hoi.1
       exact hk.meets0 (who:=who) (n:=n) (o:={o with price:=price,left:=qty}) (how:=0) (by show n<(s.books.set n _).length;rw[List.length_set];exact hnl) h1.1
    ·exact(hdrop id).up
theorem DOK.new {bs:List za1}{ps:List zaJ}{look beat:Int}(h:isR bs ps look beat=true):DOK 0 (zbH bs ps look beat):=by
 refine⟨h,by simp[zbH],fun l hl=> ?_,fun l hl o ho=> ?_,⟨Int.le_refl _,Int.le_refl _⟩,⟨Int.le_refl _,Int.le_refl _⟩,⟨Int.le_refl _,Int.le_refl _⟩,⟨Int.le_refl _,Int.le_refl _⟩,⟨Int.le_refl _,Int.le_refl _⟩,by simp[zbH],fun u hu=> ?_,List.Pairwise.nil,Nat.le_refl _,fun q hq=>(by cases hq),List.Pairwise.nil,Nat.le_refl _,fun a ha=>(by cases ha),RowD.nil,Nat.le_refl _,by simp[zbH],fun n hn=> ?_,by simp[zbH],fun r hr=> ?_,Nat.zero_le _,⟨Int.le_refl _,by show(0:Int)≤18446744073709551615;omega⟩⟩
 ·rw[(List.mem_replicate.1 hl).2];exact zaT.nil
 ·rw[(List.mem_replicate.1 hl).2]at ho;cases ho
 ·rw[(List.mem_replicate.1 hu).2];omega
 ·rw[(List.mem_replicate.1 hn).2];unfold inW;omega
 ·rw[(List.mem_replicate.1 hr).2]
  refine⟨by simp[zbH],fun n hn=> ?_⟩
  rw[(List.mem_replicate.1 hn).2];unfold inW;omega
end Go.Proofs.YteocfhdocpeokaaGreat
set_option linter.unusedSimpArgs false
set_option linter.unusedVariables false
namespace Go.Proofs.YteocfhdocpeokaaGreat
open Go Go.Sl
/-! ### rows of what is due -/
theorem zbM {l:List Due}{kind id:Int}{x:Due}(hx:x∈l)(hn:¬(x.kind=kind∧x.id=id)):x∈zbb l kind id:=by
 unfold zbb
 split
 ·exact hx
 ·rename_i hi
  obtain⟨j,hj⟩:=List.getElem?_of_mem hx
  obtain⟨i,hie⟩:=Int.eq_ofNat_of_zero_le (show 0≤za0 (hasD kind id) l by omega)
  obtain⟨y,hy,hp⟩:=zet hie
  rw[hie,Int.toNat_natCast,List.mem_eraseIdx_iff_getElem?]
  refine⟨j,?_,hj⟩
  rintro rfl
  rw[hj]at hy
  cases hy
  exact hn (zfl.1 hp)
theorem zcH {l:List Due}{kind id:Int}{x:Due}(hx:x∈zbb l kind id):x∈l:=zby.subset hx
theorem zcZ :∀(qs:List zaH) {l:List Due} {x:Due},x∈l→x.kind≠3→x∈qs.foldl (fun l q=>zbb l 3 q.id) l
 |[],_,_,h,_=>h
 |q::qs,l,x,h,hn=>zcZ qs (zbM h (fun e=>hn e.1)) hn
theorem zex :∀(qs:List zaH) {l:List Due} {x:Due},x∈qs.foldl (fun l q=>zbb l 3 q.id) l→x∈l
 |[],_,_,h=>h
 |q::qs,l,x,h=>zcH (zex qs h)
/-- what the row keeps is behind the tick -/
theorem zhL {l:List Due}(hr:RowD l){tick:Int}:∀{x:Due},x∈l.drop (zdK l tick)→tick<x.tick:=by
 have hup:=hr.up
 clear hr
 induction l with
 |nil=>intro x hx;simp at hx
 |cons y l ih=>
  rw[List.pairwise_cons]at hup
  intro x hx
  unfold zdK at hx
  rw[List.takeWhile_cons]at hx
  split at hx
  ·exact ih hup.2 (by unfold zdK;simpa using hx)
  ·rename_i hy
   simp only[decide_eq_true_eq]at hy
   rcases List.mem_cons.1 (by simpa using hx)with rfl|hx
   ·omega
   ·have:=hup.1 x hx
    unfold ltD at this
    omega
/-! ### requests -/
theorem zey {l:List AskR}(hup:upA l){x y:AskR}(hx:x∈l)(hy:y∈l)(he:x.id=y.id):x=y:=by
 obtain⟨i,hi⟩:=List.getElem?_of_mem hx
 obtain⟨j,hj⟩:=List.getElem?_of_mem hy
 obtain⟨hil,hie⟩:=gsi.1 hi
 obtain⟨hjl,hje⟩:=gsi.1 hj
 rcases Nat.lt_trichotomy i j with h|h|h
 ·have:=List.pairwise_iff_getElem.1 hup i j hil hjl h
  rw[hie,hje]at this;omega
 ·subst h;rw[hi]at hj;cases hj;rfl
 ·have:=List.pairwise_iff_getElem.1 hup j i hjl hil h
  rw[hie,hje]at this;omega
theorem zfn {l:List AskR}(hup:upA l){x:AskR}(hx:x∈l):getA x.id l=some x:=by
 have hB:bsB (cA x.id) l=true:=by
  unfold bsB
  have hm:∀(l:List AskR),upA l→x∈l→∃y,l[bsN (cA x.id) l]? =some y∧cA x.id y=0:=by
   intro l
   induction l with
   |nil=>intro _ h;cases h
   |cons z l ih=>
    intro hu hm
    have hu':=hu
    unfold upA at hu'
    rw[List.pairwise_cons]at hu'
    rcases List.mem_cons.1 hm with rfl|hm
    ·refine⟨x,?_,by simp[cA,cmpI]⟩
     have:bsN (cA x.id) (x::l)=0:=by unfold bsN;simp[cA,cmpI]
     rw[this];rfl
    ·obtain⟨y,hy,hc⟩:=ih hu'.2 hm
     have hz:z.id<x.id:=hu'.1 x hm
     have hz2:cA x.id z<0:=by
      unfold cA cmpI
      split<;>omega
     have:bsN (cA x.id) (z::l)=bsN (cA x.id) l+1:=by
      unfold bsN
      rw[List.takeWhile_cons,if_pos (by simpa using hz2)];rfl
     exact⟨y,by rw[this];simpa using hy,hc⟩
  obtain⟨y,hy,hc⟩:=hm l hup hx
  rw[hy];simp[hc]
 obtain⟨y,hy,hi,hg⟩:=zfU hB
 rw[hg,zey hup (mog hy) hx hi]
theorem zci {id:Int}{l:List AskR}{x z y:AskR}(hup:upA l)(hx:getA id l=some x)(h:y∈setA id z l):y=z∨(y∈l∧y.id≠id):=by
 unfold setA at h
 obtain⟨j,hj⟩:=List.getElem?_of_mem h
 have hi:=gotX hx
 have hxm:=zbp hx
 rw[List.getElem?_set]at hj
 split at hj
 ·split at hj
  ·cases hj;exact .inl rfl
  ·cases hj
 ·rename_i hne
  refine .inr ⟨mog hj,fun he=> ?_⟩
  obtain⟨hil,hie⟩:=gsi.1 hi
  obtain⟨hjl,hje⟩:=gsi.1 hj
  rcases Nat.lt_trichotomy (bsN (cA id) l) j with h|h|h
  ·have:=List.pairwise_iff_getElem.1 hup _ j hil hjl h
   rw[hie,hje]at this;omega
  ·exact hne h
  ·have:=List.pairwise_iff_getElem.1 hup j _ hjl hil h
   rw[hie,hje]at this;omega
theorem zhi {id:Int}{l:List AskR}{x z:AskR}(hx:getA id l=some x):z∈setA id z l:=by
 have hi:=gotX hx
 unfold setA
 exact List.mem_iff_getElem?.2 ⟨bsN (cA id) l,by rw[List.getElem?_set,if_pos rfl,if_pos (gsi.1 hi).1]⟩
theorem zgb {id:Int}{l:List AskR}{x z y:AskR}(hx:getA id l=some x)(hy:y∈l)(hn:y.id≠id):y∈setA id z l:=by
 have hi:=gotX hx
 have hxm:=zbp hx
 obtain⟨j,hj⟩:=List.getElem?_of_mem hy
 unfold setA
 refine List.mem_iff_getElem?.2 ⟨j,?_⟩
 rw[List.getElem?_set,if_neg,hj]
 rintro rfl
 rw[hi]at hj
 cases hj
 exact hn hxm.2
/-! ### what stays so; 'xs' is yet to be looked at in a tick -/
structure EndI (s:Dk)(xs:List Due):Prop where
 up:∀x∈s.due,s.now<x.tick
 px:∀x∈xs,x.tick≤s.now
 ky:(xs++s.due).Pairwise fun a b=>¬keyD a b
 d1:∀x∈xs++s.due,x.kind=1→x.id≤s.ask
 d2:∀x∈xs++s.due,x.kind=2→∃a∈s.asks,a.id=x.id∧a.state=2
 st:∀a∈s.asks,a.state=1∨a.state=2∨a.state=3∨a.state=4
 op:∀a∈s.asks,a.state=1→(⟨a.ends,1,a.id⟩:Due)∈xs++s.due
 lk:∀a∈s.asks,a.state=2→a.until_<a.ends+s.look∧(⟨a.until_,2,a.id⟩:Due)∈xs++s.due∧(s.now<a.ends→(⟨a.ends,1,a.id⟩:Due)∈xs++s.due)
theorem EndI.same {s t:Dk}{xs:List Due}(h:EndI s xs)(h1:t.asks=s.asks)(h2:t.due=s.due)(h3:t.now=s.now)(h4:t.look=s.look)(h5:t.ask=s.ask):EndI t xs:=by
 obtain⟨a,b,c,d,e,f,g,i⟩:=h
 exact⟨by rw[h2,h3];exact a,by rw[h3];exact b,by rw[h2];exact c,by rw[h2,h5];exact d,by rw[h1,h2];exact e,by rw[h1];exact f,by rw[h1,h2];exact g,by rw[h1,h2,h3,h4];exact i⟩
/-- of what is due, nothing but ends of quotes turns -/
theorem EndI.due3 {s t:Dk}{xs:List Due}(h:EndI s xs)(h1:t.asks=s.asks)(h3:t.now=s.now)(h4:t.look=s.look)(h5:t.ask=s.ask)
 (hk:(xs++t.due).Pairwise fun a b=>¬keyD a b) (hs:∀x∈t.due,x∈s.due∨(x.kind=3∧s.now<x.tick)) (hkp:∀x∈s.due,x.kind≠3→x∈t.due):EndI t xs:=by
 obtain⟨a,b,c,d,e,f,g,i⟩:=h
 have hin:∀x∈xs++s.due,x.kind≠3→x∈xs++t.due:=fun x hx hn=>by
  rcases lma.1 hx with hx|hx
  ·exact List.mem_append_left _ hx
  ·exact List.mem_append_right _ (hkp x hx hn)
 have hout:∀x∈xs++t.due,x.kind≠3→x∈xs++s.due:=fun x hx hn=>by
  rcases lma.1 hx with hx|hx
  ·exact List.mem_append_left _ hx
  ·rcases hs x hx with hx|hx
   ·exact List.mem_append_right _ hx
   ·exact absurd hx.1 hn
 refine⟨fun x hx=> ?_,by rw[h3];exact b,hk,fun x hx hk1=> ?_,fun x hx hk2=> ?_,by rw[h1];exact f,fun y hy hy1=> ?_,fun y hy hy2=> ?_⟩
 ·rw[h3]
  rcases hs x hx with hx|hx
  ·exact a x hx
  ·exact hx.2
 ·rw[h5];exact d x (hout x hx (by omega)) hk1
 ·rw[h1];exact e x (hout x hx (by omega)) hk2
 ·rw[h1]at hy;exact hin _ (g y hy hy1) (by simp)
 ·rw[h1]at hy
  obtain⟨i1,i2,i3⟩:=i y hy hy2
  rw[h3,h4]
  exact⟨i1,hin _ i2 (by simp),fun hn=>hin _ (i3 hn) (by simp)⟩
/-- a request turns, and what is due of it -/
theorem EndI.set {s t:Dk}{xs ys:List Due}{id:Int}{x z:AskR}(h:EndI s xs)(hup:upA s.asks)(hx:getA id s.asks=some x)(hz:z.id=id)
 (ha:t.asks=setA id z s.asks) (hn:t.now=s.now) (hl:t.look=s.look) (hk:s.ask=t.ask)
 (hs1:∀y∈t.due,y∈s.due∨(s.now<y.tick∧y.kind=2∧y.id=id)) (hs2:∀y∈ys,y∈xs)
 (hky:(ys++t.due).Pairwise fun a b=>¬keyD a b)
 (hkp:∀y∈xs++s.due,(y.kind=1∨y.kind=2)→y.id≠id→y∈ys++t.due)
 (h2:z.state=2∨∀y∈ys++t.due,y.kind=2→y.id≠id)
 (hst:z.state=1∨z.state=2∨z.state=3∨z.state=4)
 (hop:z.state=1→(⟨z.ends,1,z.id⟩:Due)∈ys++t.due)
 (hlk:z.state=2→z.until_<z.ends+s.look∧(⟨z.until_,2,z.id⟩:Due)∈ys++t.due∧(s.now<z.ends→(⟨z.ends,1,z.id⟩:Due)∈ys++t.due)):EndI t ys:=by
 obtain⟨a,b,c,d,e,f,g,i⟩:=h
 have hout:∀y∈ys++t.due,y∈xs++s.due∨(s.now<y.tick∧y.kind=2∧y.id=id):=fun y hy=>by
  rcases lma.1 hy with hy|hy
  ·exact .inl (List.mem_append_left _ (hs2 y hy))
  ·rcases hs1 y hy with hy|hy
   ·exact .inl (List.mem_append_right _ hy)
   ·exact .inr hy
 refine⟨fun y hy=> ?_,fun y hy=>by rw[hn];exact b y (hs2 y hy),hky,fun y hy hk1=> ?_,fun y hy hk2=> ?_,fun y hy=> ?_,fun y hy hy1=> ?_,fun y hy hy2=> ?_⟩
 ·rw[hn]
  rcases hs1 y hy with hy|hy
  ·exact a y hy
  ·exact hy.1
 ·rcases hout y hy with hy|hy
  ·rw[←hk];exact d y hy hk1
  ·omega
 ·rw[ha]
  by_cases hid:y.id=id
  ·rcases h2 with h2|h2
   ·exact⟨z,zhi hx,by rw[hz,hid],h2⟩
   ·exact absurd hid (h2 y hy hk2)
  ·rcases hout y hy with hy|hy
   ·obtain⟨u,hu,hu1,hu2⟩:=e y hy hk2
    exact⟨u,zgb hx hu (by rw[hu1];exact hid),hu1,hu2⟩
   ·exact absurd hy.2.2 hid
 ·rw[ha]at hy
  rcases zci hup hx hy with rfl|hy
  ·exact hst
  ·exact f y hy.1
 ·rw[ha]at hy
  rcases zci hup hx hy with rfl|hy
  ·exact hop hy1
  ·exact hkp _ (g y hy.1 hy1) (.inl rfl) hy.2
 ·rw[ha]at hy
  rw[hn,hl]
  rcases zci hup hx hy with rfl|hy
  ·exact hlk hy2
  ·obtain⟨i1,i2,i3⟩:=i y hy.1 hy2
   exact⟨i1,hkp _ i2 (.inr rfl) hy.2,fun hn=>hkp _ (i3 hn) (.inl rfl) hy.2⟩
/-- nothing is to be done with what is due now -/
theorem EndI.skip {s:Dk}{x:Due}{xs:List Due}(h:EndI s (x::xs))(h1:∀a∈s.asks,a.state=1→a.id=x.id→x.kind≠1)(h2:∀a∈s.asks,a.state=2→a.id=x.id→x.kind≠2):EndI s xs:=by
 obtain⟨a,b,c,d,e,f,g,i⟩:=h
 rw[List.cons_append]at c d e
 simp only[List.cons_append]at g i
 have hx:=b x (by simp)
 refine⟨a,fun y hy=>b y (List.mem_cons_of_mem _ hy),(List.pairwise_cons.1 c).2,fun y hy=>d y (List.mem_cons_of_mem _ hy),fun y hy=>e y (List.mem_cons_of_mem _ hy),f,fun y hy hy1=> ?_,fun y hy hy2=> ?_⟩
 ·rcases List.mem_cons.1 (g y hy hy1)with he|he
  ·exact absurd (by rw[←he]) (h1 y hy hy1 (by rw[←he]))
  ·exact he
 ·obtain⟨i1,i2,i3⟩:=i y hy hy2
  refine⟨i1,?_,fun hn=> ?_⟩
  ·rcases List.mem_cons.1 i2 with he|he
   ·exact absurd (by rw[←he]) (h2 y hy hy2 (by rw[←he]))
   ·exact he
  ·rcases List.mem_cons.1 (i3 hn)with he|he
   ·rw[←he]at hx
    dsimp only at hx
    omega
   ·exact he
/-! ### the end of a request, the end of a look -/
theorem zbl (state:Int)(x:AskR):(endX state x).state=state∧(endX state x).id=x.id:=by unfold endX;split<;>exact⟨rfl,rfl⟩
/-- requests that are done or dead are at their end -/
theorem EndI.ended {s t:Dk}{xs:List Due}{id:Int}{x:AskR}{state:Int}(h:EndI s xs)(hup:upA s.asks)(hx:getA id s.asks=some x)(h34:state=3∨state=4)(hxs:x.state=1∨x.state=2)(h32:state=3→x.state=2)
 (hpn:∀y∈xs,y.kind=2→y.id≠id) (ha:t.asks=endA id state s.asks) (hn:t.now=s.now) (hl:t.look=s.look) (hk:t.ask=s.ask)
 (hrow:RowD s.due) {qs:List zaH} (hd:t.due=zbb (zbb (qs.foldl (fun l q=>zbb l 3 q.id) s.due) 1 id) 2 id):EndI t xs:=by
 have he:endE id state s.asks=0:=by
  unfold endE
  rw[hx]
  dsimp only
  rw[if_neg (by omega),if_neg (by omega)]
 have hid:=(zbp hx).2
 have hrow2:RowD (zbb (qs.foldl (fun l q=>zbb l 3 q.id) s.due) 1 id):=zbf (zcc qs hrow)
 refine h.set (id:=id) (z:=endX state x) hup hx ((zbl _ _).2.trans hid) ?_ hn hl hk.symm (fun y hy=>.inl ?_) (fun y hy=>hy) ?_ (fun y hy hk12 hne=> ?_) (.inr (fun y hy hk2=> ?_)) ?_ ?_ ?_
 ·rw[ha];unfold endA;rw[hx];dsimp only;rw[if_pos he]
 ·rw[hd]at hy;exact zex qs (zcH (zcH hy))
 ·rw[hd]
  have hsub:(zbb (zbb (qs.foldl (fun l q=>zbb l 3 q.id) s.due) 1 id) 2 id).Sublist s.due:=by
   refine zby.trans (zby.trans ?_)
   clear hd hrow2 hrow
   generalize s.due=l
   induction qs generalizing l with
   |nil=>exact List.Sublist.refl _
   |cons q qs ih=>exact(ih _).trans zby
  exact h.ky.sublist (List.Sublist.append (List.Sublist.refl _) hsub)
 ·rcases lma.1 hy with hy|hy
  ·exact List.mem_append_left _ hy
  ·refine List.mem_append_right _ ?_
   rw[hd]
   exact zbM (zbM (zcZ qs hy (by omega)) (fun e=>hne e.2)) (fun e=>hne e.2)
 ·intro hyid
  rcases lma.1 hy with hy|hy
  ·exact hpn y hy hk2 hyid
  ·rw[hd]at hy
   exact zhJ hrow2 y hy ⟨hk2,hyid⟩
 ·rw[(zbl _ _).1];omega
 ·rw[(zbl _ _).1];omega
 ·rw[(zbl _ _).1];omega
theorem EndI.dies {s:Dk}{xs:List Due}{x:AskR}(h:EndI s xs)(hup:upA s.asks)(hrow:RowD s.due)(hx:getA x.id s.asks=some x)(hxs:x.state=1∨x.state=2)(hpn:∀y∈xs,y.kind=2→y.id≠x.id):EndI (zfi s x) xs:=
 h.ended (t:=zfi s x) (id:=x.id) (x:=x) (state:=4) (qs:=s.quotes.filter (zi7 x.id)) hup hx (.inr rfl) hxs (by omega) hpn rfl rfl rfl rfl hrow rfl
/-- the end of a look; its own end is due no more -/
theorem EndI.lookEnds {s:Dk}{xs:List Due}{x:AskR}{ds:List Due}(h:EndI s xs)(hup:upA s.asks)(hrow:RowD s.due)(hx:getA x.id s.asks=some x)(hxs:x.state=2)
 {ys:List Due} (hsub:ds.Sublist s.due) (hys:ys.Sublist xs) (hkp:∀y∈xs++s.due,¬(y.kind=2∧y.id=x.id)→y∈ys++ds) (hno:∀y∈ys++ds,¬(y.kind=2∧y.id=x.id)):EndI (zaS false {s with due:=ds} x).1 ys:=by
 have hky:(ys++ds).Pairwise fun a b=>¬keyD a b:=h.ky.sublist (List.Sublist.append hys hsub)
 have hid:=(zbp hx).2
 have hxm:=(zbp hx).1
 have hlk:=h.lk x hxm hxs
 unfold zaS
 dsimp only
 split
 ·rename_i hnow
  have he:endE x.id 4 s.asks=0:=by
   unfold endE
   rw[hx]
   dsimp only
   rw[if_neg (by omega),if_neg (by omega)]
  have hrow1:RowD ds:=hrow.sub hsub
  have hin:=fun(qs:List zaH)=>(show ∀y,y∈zbb (zbb (qs.foldl (fun l q=>zbb l 3 q.id) ds) 1 x.id) 2 x.id→y∈ds from fun y hy=>zex qs (zcH (zcH hy)))
  have hkd:=fun(qs:List zaH)=>(show ∀y,y∈ds→(y.kind=1∨y.kind=2)→y.id≠x.id→y∈zbb (zbb (qs.foldl (fun l q=>zbb l 3 q.id) ds) 1 x.id) 2 x.id from fun y hy hk hne=>zbM (zbM (zcZ qs hy (by omega)) (fun e=>hne e.2)) (fun e=>hne e.2))
  have hsb:=fun(qs:List zaH)=>(show(zbb (zbb (qs.foldl (fun l q=>zbb l 3 q.id) ds) 1 x.id) 2 x.id).Sublist ds from by
   refine zby.trans (zby.trans ?_)
   generalize ds=l
   induction qs generalizing l with
   |nil=>exact List.Sublist.refl _
   |cons q qs ih=>exact(ih _).trans zby)
  refine h.set (id:=x.id) (z:=endX 4 x) hup hx (zbl _ _).2 ?_ rfl rfl rfl (fun y hy=>.inl (hsub.subset (hin ((zbV x.hit s.quotes).filter (zi7 x.id)) y hy))) (fun y hy=>hys.subset hy) ?_ (fun y hy hk12 hne=> ?_) (.inr (fun y hy hk2 hyid=> ?_)) (by rw[(zbl _ _).1];omega) (by rw[(zbl _ _).1];omega) (by rw[(zbl _ _).1];omega)
  ·show endA x.id 4 s.asks=_
   unfold endA;rw[hx];dsimp only;rw[if_pos he]
  ·exact hky.sublist (List.Sublist.append (List.Sublist.refl _) (hsb _))
  ·rcases lma.1 (hkp y hy (fun e=>hne e.2))with h1|h1
   ·exact List.mem_append_left _ h1
   ·exact List.mem_append_right _ (hkd _ y h1 hk12 hne)
  ·refine hno y ?_ ⟨hk2,hyid⟩
   rcases lma.1 hy with hy|hy
   ·exact List.mem_append_left _ hy
   ·exact List.mem_append_right _ (hin _ y hy)
 ·rename_i hnow
  have he:zkb x.id s.asks=0:=by
   unfold zkb
   rw[hx]
   dsimp only
   rw[if_pos hxs]
  refine h.set (id:=x.id) (z:={x with state:=1,hit:=0,until_:=0}) hup hx rfl ?_ rfl rfl rfl (fun y hy=>.inl (hsub.subset hy)) (fun y hy=>hys.subset hy) hky (fun y hy hk12 hne=>hkp y hy (fun e=>hne e.2)) (.inr (fun y hy hk2 hyid=>hno y hy ⟨hk2,hyid⟩)) (.inl rfl) (fun _=> ?_) (fun h=>absurd h (by simp))
  ·show zen x.id s.asks=_
   unfold zen;rw[hx];dsimp only;rw[if_pos he]
  ·have h1:=hlk.2.2 (by omega)
   exact hkp _ h1 (fun e=>absurd e.1 (by simp))
/-! ### ticks -/
theorem zhM {s:Dk×List OutR}(hu:upA s.1.asks)(x:Due):upA (dueD false s x).1.asks:=by
 unfold dueD
 split
 ·exact hu
 ·split
  ·exact hu
  ·rename_i a _
   split
   ·show upA (zaS false s.1 a).1.asks
    unfold zaS
    dsimp only
    split
    ·exact(zgC hu).1
    ·exact(zhh hu).1
   ·split
    ·exact(zgC hu).1
    ·exact hu
theorem zhN {s:Dk×List OutR}(hu:RowD s.1.due)(x:Due):RowD (dueD false s x).1.due:=by
 unfold dueD
 split
 ·exact hu
 ·split
  ·exact hu
  ·rename_i a _
   split
   ·show RowD (zaS false s.1 a).1.due
    unfold zaS
    dsimp only
    split
    ·exact zbf (zbf (zcc _ hu))
    ·exact hu
   ·split
    ·exact zbf (zbf (zcc _ hu))
    ·exact hu
theorem EndI.dueOne {s:Dk×List OutR}{x:Due}{xs:List Due}(h:EndI s.1 (x::xs))(hup:upA s.1.asks)(hrow:RowD s.1.due):EndI (dueD false s x).1 xs:=by
 have hky:=h.ky
 rw[List.cons_append,List.pairwise_cons]at hky
 unfold dueD
 split
 ·rename_i h3
  exact(h.skip (fun a _ _ _=>by omega) (fun a _ _ _=>by omega)).same rfl rfl rfl rfl rfl
 ·rename_i h3
  split
  ·rename_i hg
   refine h.skip (fun a ha _ he=> ?_) (fun a ha _ he=> ?_)
   all_goals
    have:=zfn hup ha
    rw[he,hg]at this
    cases this
  ·rename_i a hg
   have hid:=(zbp hg).2
   have hga:getA a.id s.1.asks=some a:=by rw[hid];exact hg
   split
   ·rename_i h2
    refine h.lookEnds (x:=a) (ds:=s.1.due) hup hrow hga h2.2 (ys:=xs) (List.Sublist.refl _) (List.sublist_cons_self _ _) (fun y hy hn=> ?_) (fun y hy hn=> ?_)
    ·rcases List.mem_cons.1 hy with rfl|hy
     ·exact absurd ⟨h2.1,hid.symm⟩ hn
     ·exact hy
    ·exact hky.1 y hy ⟨by rw[hn.1];exact h2.1,by rw[hn.2];exact hid.symm⟩
   ·rename_i h2
    split
    ·rename_i h1
     refine(h.dies hup hrow hga (.inl h1.2) (fun y hy hk2=> ?_)).skip ?_ ?_
     ·intro hyid
      obtain⟨u,hu,hu1,hu2⟩:=h.d2 y (List.mem_append_left _ hy) hk2
      have:=zey hup hu (zbp hg).1 (by omega)
      rw[this]at hu2
      omega
     all_goals
      intro b hb hb1 hbid
      rw[show(zfi s.1 a).asks=endA a.id 4 s.1.asks from rfl]at hb
      unfold endA at hb
      rw[hga]at hb
      dsimp only at hb
      rw[if_pos (by unfold endE;rw[hga];dsimp only;rw[if_neg (by omega),if_neg (by omega)])]at hb
      rcases zci hup hga hb with rfl|hb
      ·rw[(zbl _ _).1]at hb1;omega
      ·omega
    ·rename_i h1
     refine h.skip (fun b hb hb1 hbid hk=> ?_) (fun b hb hb2 hbid hk=> ?_)
     ·have:=zey hup hb (zbp hg).1 (by omega)
      subst this
      exact h1 ⟨hk,hb1⟩
     ·have:=zey hup hb (zbp hg).1 (by omega)
      subst this
      exact h2 ⟨hk,hb2⟩
theorem EndI.dueAll :∀(xs:List Due) {s:Dk×List OutR},EndI s.1 xs→upA s.1.asks→RowD s.1.due→EndI (xs.foldl (dueD false) s).1 []
 |[],s,h,_,_=>h
 |x::xs,s,h,hu,hr=>EndI.dueAll xs (h.dueOne hu hr) (zhM hu x) (zhN hr x)
theorem EndI.tick {N:Nat}{s:Dk}(h:EndI s [])(hD:DOK N s):EndI (zfj false s).1 []:=by
 unfold zfj
 refine EndI.dueAll _ (s:=({s with now:=s.now+1,due:=s.due.drop (zdK s.due (s.now+1))},[])) ?_ hD.upa (hD.row.sub (List.drop_sublist _ _))
 obtain⟨a,b,c,d,e,f,g,i⟩:=h
 simp only[List.nil_append]at c d e g i
 have hta:s.due.take (zdK s.due (s.now+1))++s.due.drop (zdK s.due (s.now+1))=s.due:=List.take_append_drop _ _
 refine⟨fun x hx=>zhL hD.row hx,fun x hx=>zhK hx,?_,?_,?_,f,?_,?_⟩
 all_goals(show _;dsimp only;rw[hta])
 ·exact c
 ·exact d
 ·exact e
 ·exact g
 ·intro y hy hy2
  obtain⟨i1,i2,i3⟩:=i y hy hy2
  exact⟨i1,i2,fun hn=>i3 (by omega)⟩
/-! ### what is asked -/
theorem EndI.goneAll :∀(qs:List zaH) {s:Dk},EndI s []→RowD s.due→EndI (qs.foldl (zdL false) s) []
 |[],s,h,_=>h
 |q::qs,s,h,hr=>by
  rw[List.foldl_cons]
  unfold zdL
  split
  ·exact EndI.goneAll qs h hr
  ·refine EndI.goneAll qs (h.due3 (t:={s with quotes:=zbV q.id s.quotes,due:=zbb s.due 3 q.id}) rfl rfl rfl rfl (zbf hr).once (fun x hx=>.inl (zcH hx)) (fun x hx hn=>zbM hx (fun e=>hn e.1))) (zbf hr)
theorem EndI.gone {N:Nat}{s:Dk}(h:EndI s [])(hD:DOK N s)(who:Int):EndI (zeJ false s who).1 []:=by
 unfold zeJ
 exact EndI.goneAll _ (h.same (t:={s with books:=s.books.map (zhG who)}) rfl rfl rfl rfl rfl) hD.row
theorem EndI.new {bs:List za1}{ps:List zaJ}{look beat:Int}:EndI (zbH bs ps look beat) []:=by
 refine⟨?_,?_,?_,?_,?_,?_,?_,?_⟩<;>simp[zbH]
end Go.Proofs.YteocfhdocpeokaaGreat
set_option linter.unusedSimpArgs false
set_option linter.unusedVariables false
namespace Go.Proofs.YteocfhdocpeokaaGreat
open Go Go.Sl
def OwnI (s:Dk):Prop:=∀l∈s.books,∀o∈l,o.owner≤8
theorem OwnI.same {s t:Dk}(h:OwnI s)(e:t.books=s.books):OwnI t:=by unfold OwnI;rw[e];exact h
theorem OwnI.set {s t:Dk}(h:OwnI s){n:Nat}{m:List zav}(e:t.books=s.books.set n m)(hm:∀o∈m,o.owner≤8):OwnI t:=by
 intro l hl
 rw[e]at hl
 rcases za6 hl with rfl|hl
 ·exact hm
 ·exact h l hl
theorem OwnI.book {s:Dk}(h:OwnI s)(n:Nat):∀o∈zbe s n,o.owner≤8:=by
 unfold zbe
 intro o ho
 rw[List.getD_eq_getElem?_getD]at ho
 rcases hb:s.books[n]? with _|l
 ·rw[hb]at ho;cases ho
 ·rw[hb]at ho
  exact h l (mog hb) o ho
theorem DOK.bookB {N:Nat}{s:Dk}(h:DOK N s)(n:Nat):zaT (zbe s n):=by
 unfold zbe
 rw[List.getD_eq_getElem?_getD]
 rcases hb:s.books[n]? with _|l
 ·exact zaT.nil
 ·exact h.bks l (mog hb)
theorem zlt {how:Int}{o:zav}{l:List zav}(hB:zaT l):∀f∈(doV how o l).fills,∃x∈l,f.mparty=x.owner∧f.price=x.price:=by
 by_cases h0:zb4 how o l=0
 ·obtain⟨hw,e1,e2,_⟩:=zep hB h0
  rw[e1]
  obtain⟨xs,hsub,hlen,hf⟩:=hw.mks
  intro f hfm
  obtain⟨i,hi⟩:=List.getElem?_of_mem hfm
  have hil:=(gsi.1 hi).1
  have hF:=(hf i f (xs[i]'(by omega)) hi (gge _)).1
  exact⟨xs[i]'(by omega),(zbS (hsub.subset (List.getElem_mem _))).1,hF.mparty,hF.price⟩
 ·rw[zeq h0]
  intro f hf;cases hf
theorem zez {who:Int}{o:zav}{n:Nat}:∀(fs:List zb7) (s:FSt),(fs.foldl (zcl who o n) s).d.books=s.d.books
 |[],s=>rfl
 |f::fs,s=>by rw[List.foldl_cons];exact zez fs (zcl who o n s f)
theorem OwnI.meets {N:Nat}{s:Dk}(h:OwnI s)(hD:DOK N s){who:Int}{n:Nat}{o:zav}{how:Int}(ho:o.owner≤8):OwnI (zb5 s who n o how).d:=by
 unfold zb5
 dsimp only
 split
 ·exact h
 ·refine h.set (zez _ _) (fun y hy=> ?_)
  rcases zgD (hD.bookB n) hy with ⟨x,hx,_,_,he⟩|⟨_,_,he⟩
  ·rw[he];exact h.book n x hx
  ·rw[he];exact ho
theorem OwnI.tick {rf:Bool}{s:Dk}(h:OwnI s):OwnI (zfj rf s).1:=by
 have key:∀(xs:List Due) (t:Dk×List OutR),t.1.books=s.books→(xs.foldl (dueD rf) t).1.books=s.books:=by
  intro xs
  induction xs with
  |nil=>intro t e;exact e
  |cons x xs ih=>
   intro t e
   rw[List.foldl_cons]
   refine ih _ ?_
   unfold dueD
   split
   ·exact e
   ·split
    ·exact e
    ·split
     ·dsimp only
      unfold zaS
      dsimp only
      split<;>exact e
     ·split<;>exact e
 exact h.same (key _ _ rfl)
theorem OwnI.gone {rf:Bool}{s:Dk}(h:OwnI s)(who:Int):OwnI (zeJ rf s who).1:=by
 have key:∀(qs:List zaH) (t:Dk),(qs.foldl (zdL rf) t).books=t.books:=by
  intro qs
  induction qs with
  |nil=>intro t;rfl
  |cons q qs ih=>
   intro t
   rw[List.foldl_cons,ih]
   unfold zdL
   split<;>rfl
 unfold zeJ
 intro l hl
 dsimp only at hl
 rw[key]at hl
 obtain⟨m,hm,rfl⟩:=lmm.1 hl
 intro o ho
 exact h m hm o (zcv.1 o ho)
theorem OwnI.new {bs:List za1}{ps:List zaJ}{look beat:Int}:OwnI (zbH bs ps look beat):=by
 intro l hl o ho
 have:l=[]:=by
  have:=List.eq_of_mem_replicate hl
  exact this
 rw[this]at ho
 cases ho
end Go.Proofs.YteocfhdocpeokaaGreat
