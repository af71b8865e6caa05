/- The statements' walks, and what they stand on, joined into few texts: part 4. Conditions stand in each statement. -/
import Derived.Test.YteocfhdocpeokaaGreatBndG3
set_option maxHeartbeats 16000000
set_option linter.all false
namespace Go.Proofs.YteocfhdocpeokaaGreat
open Go Go.Sl
attribute [local irreducible] AW ES EP Ld RetQ
set_option maxRecDepth 100000
theorem znZ (W:World)(k:Int):zaw Tryz.prog W 107 [.int .i64 k] [] (.bool (zhQ k)):=by
 refine zaw.ofD (fun h' hs=> ?_)
 refine zaf Tryz.func107 rfl rfl Tryz.results107 Tryz.ntmps107 rfl rfl ?_
 repeat' (first|apply zah|apply zaa|apply zak|apply zag|apply zac hT;iterate 4 exact rfl|apply zaK;iterate 3 exact rfl|(apply zaH;exact rfl;all_goals(intro hb;(fail_if_success (change true=true at hb));(fail_if_success (change false=false at hb));(try dsimp only at hb);(try simp only[hb]);(first|replace hb:=odt hb|replace hb:=odf hb);(try omega))))
 all_goals first
  |(apply ret1;exact rfl;exact⟨by(first|simp_all [zhQ,inB];done|simp[zhQ,inB];omega),dX⟩)
  |skip
theorem zjP {k:Int}(h:¬(1≤k∧k≤28)):zhx k= -1:=by
 unfold zhx
 split
 ·rfl
 ·have:k=0:=by omega
  subst this;rfl
theorem zpH (W:World)(k:Int):zaw Tryz.prog W 136 [.int .i64 k] [] (.int .i64 (zhx k)):=by
 refine zaw.ofD (fun h' hs=> ?_)
 by_cases hk:1≤k∧k≤28
 ·obtain⟨n,rfl⟩:=Int.eq_ofNat_of_zero_le (show 0≤k by omega)
  have hn:n=1∨n=2∨n=3∨n=4∨n=5∨n=6∨n=7∨n=8∨n=9∨n=10∨n=11∨n=12∨n=13∨n=14∨n=15∨n=16∨n=17∨n=18∨n=19∨n=20∨n=21∨n=22∨n=23∨n=24∨n=25∨n=26∨n=27∨n=28:=by omega
  refine zaf Tryz.func136 rfl rfl Tryz.results136 Tryz.ntmps136 rfl rfl ?_
  rcases hn with rfl|rfl|rfl|rfl|rfl|rfl|rfl|rfl|rfl|rfl|rfl|rfl|rfl|rfl|rfl|rfl|rfl|rfl|rfl|rfl|rfl|rfl|rfl|rfl|rfl|rfl|rfl|rfl
  all_goals
   repeat' (first|apply zah|apply zaa|apply zak|apply zam|apply zaj|apply zag|apply zac hT;iterate 4 exact rfl|apply zas;iterate 2 exact rfl|apply zan;iterate 2 exact rfl)
   all_goals first
    |(apply ret1;exact rfl;exact⟨rfl,dX⟩)
    |skip
 ·rw[zjP hk]
  refine zaf Tryz.func136 rfl rfl Tryz.results136 Tryz.ntmps136 rfl rfl ?_
  repeat' (first|apply zah|apply zaa|apply zak|apply zam|apply zaj|apply zag|apply zac hT;iterate 4 exact rfl|(apply zal;exact rfl;all_goals(intro hb;(try dsimp only at hb);(try simp only[hb]);(first|replace hb:=odt hb|replace hb:=odf hb);(try omega))))
  all_goals first
   |(exfalso;omega)
   |(apply ret1;exact rfl;exact⟨rfl,dX⟩)
   |skip
theorem zpI (k:Int): -1≤zhx k∧zhx k≤6:=by
 by_cases hk:1≤k∧k≤28
 ·obtain⟨n,rfl⟩:=Int.eq_ofNat_of_zero_le (show 0≤k by omega)
  have hn:n<29:=by omega
  have key:∀n:Fin 29,-1≤zhx ((n.val:Nat):Int)∧zhx ((n.val:Nat):Int)≤6:=by decide
  exact key ⟨n,hn⟩
 ·rw[zjP hk];omega
theorem zrC (W:World)(m:MsgR):zaw Tryz.prog W 108 [.agg m.enc.toArray] [] (.bool (zna m)):=by
 refine zaw.ofD (fun h' hs=> ?_)
 have hM:=zpH W m.kind
 have hle:=zpI m.kind
 unfold zna
 generalize zhx m.kind=n at*
 refine zaf Tryz.func108 rfl rfl Tryz.results108 Tryz.ntmps108 rfl rfl ?_
 by_cases h0:n<0
 ·rw[decide_eq_false (show ¬n≥0 by omega)]
  repeat' (first|apply zah|apply zaa|apply zak|apply zag|apply zac hT;iterate 4 exact rfl|apply zaA;(iterate 5 exact rfl);intro g1|(apply zab (hs:=(hM.mono (by simp)));iterate 7 exact rfl)|(apply zad;(iterate 5 exact rfl);first|(apply zaq hT;exact rfl;exact rfl;exact mX;exact rfl;exact rfl))|(apply zal;exact rfl;all_goals(intro hb;(try dsimp only at hb);(try simp only[hb]);(first|replace hb:=odt hb|replace hb:=odf hb);(try omega))))
  all_goals first
   |(exfalso;omega)
   |(apply ret1;exact rfl;exact⟨rfl,dX⟩)
   |skip
 ·rw[decide_eq_true (show n≥0 by omega),Bool.true_and]
  obtain⟨q,rfl⟩:=Int.eq_ofNat_of_zero_le (show 0≤n by omega)
  have hq:q=0∨q=1∨q=2∨q=3∨q=4∨q=5∨q=6:=by omega
  rcases hq with rfl|rfl|rfl|rfl|rfl|rfl|rfl
  ·repeat' (first|apply zah|apply zaa|apply zam|apply zaj|apply zag|apply zac hT;iterate 4 exact rfl|apply zaA;(iterate 5 exact rfl);intro g1|(apply zab (hs:=(hM.mono (by simp)));iterate 7 exact rfl)|apply zbP hT;(iterate 8 exact rfl);(iterate 2 omega)|(apply zad;(iterate 5 exact rfl);first|(apply zaq hT;exact rfl;exact rfl;exact mX;exact rfl;exact rfl))|apply zan;iterate 2 exact rfl)
   all_goals try omega
   have hrd:zaz W (.blk g1 42 m.enc::h') (some ⟨g1,1,none⟩) 6 1 (((MsgR.nums m).drop 0).map (Value.int .i64)):=zaz.blk mem0 rfl rfl (fun v hv=>by
    obtain⟨y,_,rfl⟩:=lmm.1 hv
    rfl)
   have hll:((MsgR.nums m).drop 0).length=6:=rfl
   show AW _ _ _ _ _ _ _
   rw[show(Int.toNat ((0:Nat):Int))=0 from rfl]
   generalize (MsgR.nums m).drop 0=l at*
   refine za1 (α:=Nat) (E:=fun k=>[(13,.slice (some ⟨g1,1,none⟩) 6 6),(14,.int .i64 (6:Nat)),(15,.int .i64 k)]) (H:=fun _=>.blk g1 42 m.enc::h') (μ:=fun k=>6 - k)
    (S:=fun k=>k≤6∧∀(j:Nat) v,j<k→l[j]? =some v→(v==0)=true) 0 ⟨Nat.zero_le _,fun j v hj=>absurd hj (Nat.not_lt_zero _)⟩ ⟨rfl,rfl,rfl,trivial⟩ dX ?_
   rintro k ⟨hk,hgd⟩
   by_cases hlt:k<6
   ·obtain⟨v,hv⟩:∃v,l[k]? =some v:=⟨l[k]'(by omega),gge (by omega)⟩
    have hv2:l[(k:Int).toNat]? =some v:=by simpa using hv
    have hd1:decide ((k:Int)<((6:Nat):Int))=true:=by simp;omega
    have hix:=zeG (kd:=.i64) hv2
    by_cases hz:v=0
    ·repeat' (first|apply zah|apply zaa|apply zam|apply zaj|apply zag|apply zac hT;iterate 4 exact rfl|(apply zaM hT;(iterate 4 exact rfl);(iterate 2 (first|omega)))|apply zaJ hT;(iterate 8 exact rfl);(iterate 2 omega);exact rfl|apply zad;(iterate 5 exact rfl);exact zbe hT rfl rfl hrd rfl hix|(apply zal;exact rfl;all_goals(intro hb;(try dsimp only at hb);(try simp only[hb]);(first|replace hb:=odt hb|replace hb:=odf hb|replace hb:=zbc hb|replace hb:=zbd hb);(try omega))))
     all_goals first
      |(exfalso;omega)
      |exact zaD (k+1) (by(try dsimp only);omega) ⟨by(try dsimp only);omega,fun j w hj hw=>by
        by_cases e:j=k
        ·rw[e,hv]at hw;cases hw;rw[hz];rfl
        ·exact hgd j w (by(try dsimp only at hj);omega) hw⟩ ⟨rfl,rfl,rfl,trivial⟩ dX
      |skip
    ·have hno:l.all (fun v=>v==0)=false:=by
      rw[List.all_eq_false]
      exact⟨v,mog hv,by simpa using hz⟩
     repeat' (first|apply zah|apply zaa|apply zak|apply zam|apply zaj|apply zag|apply zac hT;iterate 4 exact rfl|apply zaJ hT;(iterate 8 exact rfl);(iterate 2 omega);exact rfl|apply zad;(iterate 5 exact rfl);exact zbe hT rfl rfl hrd rfl hix|(apply zal;exact rfl;all_goals(intro hb;(try dsimp only at hb);(try simp only[hb]);(first|replace hb:=odt hb|replace hb:=odf hb|replace hb:=zbc hb|replace hb:=zbd hb);(try omega))))
     all_goals first
      |(exfalso;omega)
      |(apply ret1;exact rfl;exact⟨by rw[hno],dX⟩)
      |skip
   ·obtain rfl:k=6:=by omega
    have hd1:decide (((6:Nat):Int)<((6:Nat):Int))=false:=by simp
    have hyes:l.all (fun v=>v==0)=true:=by
     rw[List.all_eq_true]
     intro v hv
     obtain⟨j,hj⟩:=List.getElem?_of_mem hv
     exact hgd j v (by have:=(gsi.1 hj).1;omega) hj
    repeat' (first|apply zah|apply zaa|apply zak|apply zaN|apply zag|apply zac hT;iterate 4 exact rfl|apply zan;iterate 2 exact rfl)
    all_goals first
     |(exfalso;omega)
     |(apply ret1;exact rfl;exact⟨by rw[hyes],dX⟩)
     |skip
  ·repeat' (first|apply zah|apply zaa|apply zam|apply zaj|apply zag|apply zac hT;iterate 4 exact rfl|apply zaA;(iterate 5 exact rfl);intro g1|(apply zab (hs:=(hM.mono (by simp)));iterate 7 exact rfl)|apply zbP hT;(iterate 8 exact rfl);(iterate 2 omega)|(apply zad;(iterate 5 exact rfl);first|(apply zaq hT;exact rfl;exact rfl;exact mX;exact rfl;exact rfl))|apply zan;iterate 2 exact rfl)
   all_goals try omega
   have hrd:zaz W (.blk g1 42 m.enc::h') (some ⟨g1,2,none⟩) 5 1 (((MsgR.nums m).drop 1).map (Value.int .i64)):=zaz.blk mem0 rfl rfl (fun v hv=>by
    obtain⟨y,_,rfl⟩:=lmm.1 hv
    rfl)
   have hll:((MsgR.nums m).drop 1).length=5:=rfl
   show AW _ _ _ _ _ _ _
   rw[show(Int.toNat ((1:Nat):Int))=1 from rfl]
   generalize (MsgR.nums m).drop 1=l at*
   refine za1 (α:=Nat) (E:=fun k=>[(13,.slice (some ⟨g1,2,none⟩) 5 5),(14,.int .i64 (5:Nat)),(15,.int .i64 k)]) (H:=fun _=>.blk g1 42 m.enc::h') (μ:=fun k=>5 - k)
    (S:=fun k=>k≤5∧∀(j:Nat) v,j<k→l[j]? =some v→(v==0)=true) 0 ⟨Nat.zero_le _,fun j v hj=>absurd hj (Nat.not_lt_zero _)⟩ ⟨rfl,rfl,rfl,trivial⟩ dX ?_
   rintro k ⟨hk,hgd⟩
   by_cases hlt:k<5
   ·obtain⟨v,hv⟩:∃v,l[k]? =some v:=⟨l[k]'(by omega),gge (by omega)⟩
    have hv2:l[(k:Int).toNat]? =some v:=by simpa using hv
    have hd1:decide ((k:Int)<((5:Nat):Int))=true:=by simp;omega
    have hix:=zeG (kd:=.i64) hv2
    by_cases hz:v=0
    ·repeat' (first|apply zah|apply zaa|apply zam|apply zaj|apply zag|apply zac hT;iterate 4 exact rfl|(apply zaM hT;(iterate 4 exact rfl);(iterate 2 (first|omega)))|apply zaJ hT;(iterate 8 exact rfl);(iterate 2 omega);exact rfl|apply zad;(iterate 5 exact rfl);exact zbe hT rfl rfl hrd rfl hix|(apply zal;exact rfl;all_goals(intro hb;(try dsimp only at hb);(try simp only[hb]);(first|replace hb:=odt hb|replace hb:=odf hb|replace hb:=zbc hb|replace hb:=zbd hb);(try omega))))
     all_goals first
      |(exfalso;omega)
      |exact zaD (k+1) (by(try dsimp only);omega) ⟨by(try dsimp only);omega,fun j w hj hw=>by
        by_cases e:j=k
        ·rw[e,hv]at hw;cases hw;rw[hz];rfl
        ·exact hgd j w (by(try dsimp only at hj);omega) hw⟩ ⟨rfl,rfl,rfl,trivial⟩ dX
      |skip
    ·have hno:l.all (fun v=>v==0)=false:=by
      rw[List.all_eq_false]
      exact⟨v,mog hv,by simpa using hz⟩
     repeat' (first|apply zah|apply zaa|apply zak|apply zam|apply zaj|apply zag|apply zac hT;iterate 4 exact rfl|apply zaJ hT;(iterate 8 exact rfl);(iterate 2 omega);exact rfl|apply zad;(iterate 5 exact rfl);exact zbe hT rfl rfl hrd rfl hix|(apply zal;exact rfl;all_goals(intro hb;(try dsimp only at hb);(try simp only[hb]);(first|replace hb:=odt hb|replace hb:=odf hb|replace hb:=zbc hb|replace hb:=zbd hb);(try omega))))
     all_goals first
      |(exfalso;omega)
      |(apply ret1;exact rfl;exact⟨by rw[hno],dX⟩)
      |skip
   ·obtain rfl:k=5:=by omega
    have hd1:decide (((5:Nat):Int)<((5:Nat):Int))=false:=by simp
    have hyes:l.all (fun v=>v==0)=true:=by
     rw[List.all_eq_true]
     intro v hv
     obtain⟨j,hj⟩:=List.getElem?_of_mem hv
     exact hgd j v (by have:=(gsi.1 hj).1;omega) hj
    repeat' (first|apply zah|apply zaa|apply zak|apply zaN|apply zag|apply zac hT;iterate 4 exact rfl|apply zan;iterate 2 exact rfl)
    all_goals first
     |(exfalso;omega)
     |(apply ret1;exact rfl;exact⟨by rw[hyes],dX⟩)
     |skip
  ·repeat' (first|apply zah|apply zaa|apply zam|apply zaj|apply zag|apply zac hT;iterate 4 exact rfl|apply zaA;(iterate 5 exact rfl);intro g1|(apply zab (hs:=(hM.mono (by simp)));iterate 7 exact rfl)|apply zbP hT;(iterate 8 exact rfl);(iterate 2 omega)|(apply zad;(iterate 5 exact rfl);first|(apply zaq hT;exact rfl;exact rfl;exact mX;exact rfl;exact rfl))|apply zan;iterate 2 exact rfl)
   all_goals try omega
   have hrd:zaz W (.blk g1 42 m.enc::h') (some ⟨g1,3,none⟩) 4 1 (((MsgR.nums m).drop 2).map (Value.int .i64)):=zaz.blk mem0 rfl rfl (fun v hv=>by
    obtain⟨y,_,rfl⟩:=lmm.1 hv
    rfl)
   have hll:((MsgR.nums m).drop 2).length=4:=rfl
   show AW _ _ _ _ _ _ _
   rw[show(Int.toNat ((2:Nat):Int))=2 from rfl]
   generalize (MsgR.nums m).drop 2=l at*
   refine za1 (α:=Nat) (E:=fun k=>[(13,.slice (some ⟨g1,3,none⟩) 4 4),(14,.int .i64 (4:Nat)),(15,.int .i64 k)]) (H:=fun _=>.blk g1 42 m.enc::h') (μ:=fun k=>4 - k)
    (S:=fun k=>k≤4∧∀(j:Nat) v,j<k→l[j]? =some v→(v==0)=true) 0 ⟨Nat.zero_le _,fun j v hj=>absurd hj (Nat.not_lt_zero _)⟩ ⟨rfl,rfl,rfl,trivial⟩ dX ?_
   rintro k ⟨hk,hgd⟩
   by_cases hlt:k<4
   ·obtain⟨v,hv⟩:∃v,l[k]? =some v:=⟨l[k]'(by omega),gge (by omega)⟩
    have hv2:l[(k:Int).toNat]? =some v:=by simpa using hv
    have hd1:decide ((k:Int)<((4:Nat):Int))=true:=by simp;omega
    have hix:=zeG (kd:=.i64) hv2
    by_cases hz:v=0
    ·repeat' (first|apply zah|apply zaa|apply zam|apply zaj|apply zag|apply zac hT;iterate 4 exact rfl|(apply zaM hT;(iterate 4 exact rfl);(iterate 2 (first|omega)))|apply zaJ hT;(iterate 8 exact rfl);(iterate 2 omega);exact rfl|apply zad;(iterate 5 exact rfl);exact zbe hT rfl rfl hrd rfl hix|(apply zal;exact rfl;all_goals(intro hb;(try dsimp only at hb);(try simp only[hb]);(first|replace hb:=odt hb|replace hb:=odf hb|replace hb:=zbc hb|replace hb:=zbd hb);(try omega))))
     all_goals first
      |(exfalso;omega)
      |exact zaD (k+1) (by(try dsimp only);omega) ⟨by(try dsimp only);omega,fun j w hj hw=>by
        by_cases e:j=k
        ·rw[e,hv]at hw;cases hw;rw[hz];rfl
        ·exact hgd j w (by(try dsimp only at hj);omega) hw⟩ ⟨rfl,rfl,rfl,trivial⟩ dX
      |skip
    ·have hno:l.all (fun v=>v==0)=false:=by
      rw[List.all_eq_false]
      exact⟨v,mog hv,by simpa using hz⟩
     repeat' (first|apply zah|apply zaa|apply zak|apply zam|apply zaj|apply zag|apply zac hT;iterate 4 exact rfl|apply zaJ hT;(iterate 8 exact rfl);(iterate 2 omega);exact rfl|apply zad;(iterate 5 exact rfl);exact zbe hT rfl rfl hrd rfl hix|(apply zal;exact rfl;all_goals(intro hb;(try dsimp only at hb);(try simp only[hb]);(first|replace hb:=odt hb|replace hb:=odf hb|replace hb:=zbc hb|replace hb:=zbd hb);(try omega))))
     all_goals first
      |(exfalso;omega)
      |(apply ret1;exact rfl;exact⟨by rw[hno],dX⟩)
      |skip
   ·obtain rfl:k=4:=by omega
    have hd1:decide (((4:Nat):Int)<((4:Nat):Int))=false:=by simp
    have hyes:l.all (fun v=>v==0)=true:=by
     rw[List.all_eq_true]
     intro v hv
     obtain⟨j,hj⟩:=List.getElem?_of_mem hv
     exact hgd j v (by have:=(gsi.1 hj).1;omega) hj
    repeat' (first|apply zah|apply zaa|apply zak|apply zaN|apply zag|apply zac hT;iterate 4 exact rfl|apply zan;iterate 2 exact rfl)
    all_goals first
     |(exfalso;omega)
     |(apply ret1;exact rfl;exact⟨by rw[hyes],dX⟩)
     |skip
  ·repeat' (first|apply zah|apply zaa|apply zam|apply zaj|apply zag|apply zac hT;iterate 4 exact rfl|apply zaA;(iterate 5 exact rfl);intro g1|(apply zab (hs:=(hM.mono (by simp)));iterate 7 exact rfl)|apply zbP hT;(iterate 8 exact rfl);(iterate 2 omega)|(apply zad;(iterate 5 exact rfl);first|(apply zaq hT;exact rfl;exact rfl;exact mX;exact rfl;exact rfl))|apply zan;iterate 2 exact rfl)
   all_goals try omega
   have hrd:zaz W (.blk g1 42 m.enc::h') (some ⟨g1,4,none⟩) 3 1 (((MsgR.nums m).drop 3).map (Value.int .i64)):=zaz.blk mem0 rfl rfl (fun v hv=>by
    obtain⟨y,_,rfl⟩:=lmm.1 hv
    rfl)
   have hll:((MsgR.nums m).drop 3).length=3:=rfl
   show AW _ _ _ _ _ _ _
   rw[show(Int.toNat ((3:Nat):Int))=3 from rfl]
   generalize (MsgR.nums m).drop 3=l at*
   refine za1 (α:=Nat) (E:=fun k=>[(13,.slice (some ⟨g1,4,none⟩) 3 3),(14,.int .i64 (3:Nat)),(15,.int .i64 k)]) (H:=fun _=>.blk g1 42 m.enc::h') (μ:=fun k=>3 - k)
    (S:=fun k=>k≤3∧∀(j:Nat) v,j<k→l[j]? =some v→(v==0)=true) 0 ⟨Nat.zero_le _,fun j v hj=>absurd hj (Nat.not_lt_zero _)⟩ ⟨rfl,rfl,rfl,trivial⟩ dX ?_
   rintro k ⟨hk,hgd⟩
   by_cases hlt:k<3
   ·obtain⟨v,hv⟩:∃v,l[k]? =some v:=⟨l[k]'(by omega),gge (by omega)⟩
    have hv2:l[(k:Int).toNat]? =some v:=by simpa using hv
    have hd1:decide ((k:Int)<((3:Nat):Int))=true:=by simp;omega
    have hix:=zeG (kd:=.i64) hv2
    by_cases hz:v=0
    ·repeat' (first|apply zah|apply zaa|apply zam|apply zaj|apply zag|apply zac hT;iterate 4 exact rfl|(apply zaM hT;(iterate 4 exact rfl);(iterate 2 (first|omega)))|apply zaJ hT;(iterate 8 exact rfl);(iterate 2 omega);exact rfl|apply zad;(iterate 5 exact rfl);exact zbe hT rfl rfl hrd rfl hix|(apply zal;exact rfl;all_goals(intro hb;(try dsimp only at hb);(try simp only[hb]);(first|replace hb:=odt hb|replace hb:=odf hb|replace hb:=zbc hb|replace hb:=zbd hb);(try omega))))
     all_goals first
      |(exfalso;omega)
      |exact zaD (k+1) (by(try dsimp only);omega) ⟨by(try dsimp only);omega,fun j w hj hw=>by
        by_cases e:j=k
        ·rw[e,hv]at hw;cases hw;rw[hz];rfl
        ·exact hgd j w (by(try dsimp only at hj);omega) hw⟩ ⟨rfl,rfl,rfl,trivial⟩ dX
      |skip
    ·have hno:l.all (fun v=>v==0)=false:=by
      rw[List.all_eq_false]
      exact⟨v,mog hv,by simpa using hz⟩
     repeat' (first|apply zah|apply zaa|apply zak|apply zam|apply zaj|apply zag|apply zac hT;iterate 4 exact rfl|apply zaJ hT;(iterate 8 exact rfl);(iterate 2 omega);exact rfl|apply zad;(iterate 5 exact rfl);exact zbe hT rfl rfl hrd rfl hix|(apply zal;exact rfl;all_goals(intro hb;(try dsimp only at hb);(try simp only[hb]);(first|replace hb:=odt hb|replace hb:=odf hb|replace hb:=zbc hb|replace hb:=zbd hb);(try omega))))
     all_goals first
      |(exfalso;omega)
      |(apply ret1;exact rfl;exact⟨by rw[hno],dX⟩)
      |skip
   ·obtain rfl:k=3:=by omega
    have hd1:decide (((3:Nat):Int)<((3:Nat):Int))=false:=by simp
    have hyes:l.all (fun v=>v==0)=true:=by
     rw[List.all_eq_true]
     intro v hv
     obtain⟨j,hj⟩:=List.getElem?_of_mem hv
     exact hgd j v (by have:=(gsi.1 hj).1;omega) hj
    repeat' (first|apply zah|apply zaa|apply zak|apply zaN|apply zag|apply zac hT;iterate 4 exact rfl|apply zan;iterate 2 exact rfl)
    all_goals first
     |(exfalso;omega)
     |(apply ret1;exact rfl;exact⟨by rw[hyes],dX⟩)
     |skip
  ·repeat' (first|apply zah|apply zaa|apply zam|apply zaj|apply zag|apply zac hT;iterate 4 exact rfl|apply zaA;(iterate 5 exact rfl);intro g1|(apply zab (hs:=(hM.mono (by simp)));iterate 7 exact rfl)|apply zbP hT;(iterate 8 exact rfl);(iterate 2 omega)|(apply zad;(iterate 5 exact rfl);first|(apply zaq hT;exact rfl;exact rfl;exact mX;exact rfl;exact rfl))|apply zan;iterate 2 exact rfl)
   all_goals try omega
   have hrd:zaz W (.blk g1 42 m.enc::h') (some ⟨g1,5,none⟩) 2 1 (((MsgR.nums m).drop 4).map (Value.int .i64)):=zaz.blk mem0 rfl rfl (fun v hv=>by
    obtain⟨y,_,rfl⟩:=lmm.1 hv
    rfl)
   have hll:((MsgR.nums m).drop 4).length=2:=rfl
   show AW _ _ _ _ _ _ _
   rw[show(Int.toNat ((4:Nat):Int))=4 from rfl]
   generalize (MsgR.nums m).drop 4=l at*
   refine za1 (α:=Nat) (E:=fun k=>[(13,.slice (some ⟨g1,5,none⟩) 2 2),(14,.int .i64 (2:Nat)),(15,.int .i64 k)]) (H:=fun _=>.blk g1 42 m.enc::h') (μ:=fun k=>2 - k)
    (S:=fun k=>k≤2∧∀(j:Nat) v,j<k→l[j]? =some v→(v==0)=true) 0 ⟨Nat.zero_le _,fun j v hj=>absurd hj (Nat.not_lt_zero _)⟩ ⟨rfl,rfl,rfl,trivial⟩ dX ?_
   rintro k ⟨hk,hgd⟩
   by_cases hlt:k<2
   ·obtain⟨v,hv⟩:∃v,l[k]? =some v:=⟨l[k]'(by omega),gge (by omega)⟩
    have hv2:l[(k:Int).toNat]? =some v:=by simpa using hv
    have hd1:decide ((k:Int)<((2:Nat):Int))=true:=by simp;omega
    have hix:=zeG (kd:=.i64) hv2
    by_cases hz:v=0
    ·repeat' (first|apply zah|apply zaa|apply zam|apply zaj|apply zag|apply zac hT;iterate 4 exact rfl|(apply zaM hT;(iterate 4 exact rfl);(iterate 2 (first|omega)))|apply zaJ hT;(iterate 8 exact rfl);(iterate 2 omega);exact rfl|apply zad;(iterate 5 exact rfl);exact zbe hT rfl rfl hrd rfl hix|(apply zal;exact rfl;all_goals(intro hb;(try dsimp only at hb);(try simp only[hb]);(first|replace hb:=odt hb|replace hb:=odf hb|replace hb:=zbc hb|replace hb:=zbd hb);(try omega))))
     all_goals first
      |(exfalso;omega)
      |exact zaD (k+1) (by(try dsimp only);omega) ⟨by(try dsimp only);omega,fun j w hj hw=>by
        by_cases e:j=k
        ·rw[e,hv]at hw;cases hw;rw[hz];rfl
        ·exact hgd j w (by(try dsimp only at hj);omega) hw⟩ ⟨rfl,rfl,rfl,trivial⟩ dX
      |skip
    ·have hno:l.all (fun v=>v==0)=false:=by
      rw[List.all_eq_false]
      exact⟨v,mog hv,by simpa using hz⟩
     repeat' (first|apply zah|apply zaa|apply zak|apply zam|apply zaj|apply zag|apply zac hT;iterate 4 exact rfl|apply zaJ hT;(iterate 8 exact rfl);(iterate 2 omega);exact rfl|apply zad;(iterate 5 exact rfl);exact zbe hT rfl rfl hrd rfl hix|(apply zal;exact rfl;all_goals(intro hb;(try dsimp only at hb);(try simp only[hb]);(first|replace hb:=odt hb|replace hb:=odf hb|replace hb:=zbc hb|replace hb:=zbd hb);(try omega))))
     all_goals first
      |(exfalso;omega)
      |(apply ret1;exact rfl;exact⟨by rw[hno],dX⟩)
      |skip
   ·obtain rfl:k=2:=by omega
    have hd1:decide (((2:Nat):Int)<((2:Nat):Int))=false:=by simp
    have hyes:l.all (fun v=>v==0)=true:=by
     rw[List.all_eq_true]
     intro v hv
     obtain⟨j,hj⟩:=List.getElem?_of_mem hv
     exact hgd j v (by have:=(gsi.1 hj).1;omega) hj
    repeat' (first|apply zah|apply zaa|apply zak|apply zaN|apply zag|apply zac hT;iterate 4 exact rfl|apply zan;iterate 2 exact rfl)
    all_goals first
     |(exfalso;omega)
     |(apply ret1;exact rfl;exact⟨by rw[hyes],dX⟩)
     |skip
  ·repeat' (first|apply zah|apply zaa|apply zam|apply zaj|apply zag|apply zac hT;iterate 4 exact rfl|apply zaA;(iterate 5 exact rfl);intro g1|(apply zab (hs:=(hM.mono (by simp)));iterate 7 exact rfl)|apply zbP hT;(iterate 8 exact rfl);(iterate 2 omega)|(apply zad;(iterate 5 exact rfl);first|(apply zaq hT;exact rfl;exact rfl;exact mX;exact rfl;exact rfl))|apply zan;iterate 2 exact rfl)
   all_goals try omega
   have hrd:zaz W (.blk g1 42 m.enc::h') (some ⟨g1,6,none⟩) 1 1 (((MsgR.nums m).drop 5).map (Value.int .i64)):=zaz.blk mem0 rfl rfl (fun v hv=>by
    obtain⟨y,_,rfl⟩:=lmm.1 hv
    rfl)
   have hll:((MsgR.nums m).drop 5).length=1:=rfl
   show AW _ _ _ _ _ _ _
   rw[show(Int.toNat ((5:Nat):Int))=5 from rfl]
   generalize (MsgR.nums m).drop 5=l at*
   refine za1 (α:=Nat) (E:=fun k=>[(13,.slice (some ⟨g1,6,none⟩) 1 1),(14,.int .i64 (1:Nat)),(15,.int .i64 k)]) (H:=fun _=>.blk g1 42 m.enc::h') (μ:=fun k=>1 - k)
    (S:=fun k=>k≤1∧∀(j:Nat) v,j<k→l[j]? =some v→(v==0)=true) 0 ⟨Nat.zero_le _,fun j v hj=>absurd hj (Nat.not_lt_zero _)⟩ ⟨rfl,rfl,rfl,trivial⟩ dX ?_
   rintro k ⟨hk,hgd⟩
   by_cases hlt:k<1
   ·obtain⟨v,hv⟩:∃v,l[k]? =some v:=⟨l[k]'(by omega),gge (by omega)⟩
    have hv2:l[(k:Int).toNat]? =some v:=by simpa using hv
    have hd1:decide ((k:Int)<((1:Nat):Int))=true:=by simp;omega
    have hix:=zeG (kd:=.i64) hv2
    by_cases hz:v=0
    ·repeat' (first|apply zah|apply zaa|apply zam|apply zaj|apply zag|apply zac hT;iterate 4 exact rfl|(apply zaM hT;(iterate 4 exact rfl);(iterate 2 (first|omega)))|apply zaJ hT;(iterate 8 exact rfl);(iterate 2 omega);exact rfl|apply zad;(iterate 5 exact rfl);exact zbe hT rfl rfl hrd rfl hix|(apply zal;exact rfl;all_goals(intro hb;(try dsimp only at hb);(try simp only[hb]);(first|replace hb:=odt hb|replace hb:=odf hb|replace hb:=zbc hb|replace hb:=zbd hb);(try omega))))
     all_goals first
      |(exfalso;omega)
      |exact zaD (k+1) (by(try dsimp only);omega) ⟨by(try dsimp only);omega,fun j w hj hw=>by
        by_cases e:j=k
        ·rw[e,hv]at hw;cases hw;rw[hz];rfl
        ·exact hgd j w (by(try dsimp only at hj);omega) hw⟩ ⟨rfl,rfl,rfl,trivial⟩ dX
      |skip
    ·have hno:l.all (fun v=>v==0)=false:=by
      rw[List.all_eq_false]
      exact⟨v,mog hv,by simpa using hz⟩
     repeat' (first|apply zah|apply zaa|apply zak|apply zam|apply zaj|apply zag|apply zac hT;iterate 4 exact rfl|apply zaJ hT;(iterate 8 exact rfl);(iterate 2 omega);exact rfl|apply zad;(iterate 5 exact rfl);exact zbe hT rfl rfl hrd rfl hix|(apply zal;exact rfl;all_goals(intro hb;(try dsimp only at hb);(try simp only[hb]);(first|replace hb:=odt hb|replace hb:=odf hb|replace hb:=zbc hb|replace hb:=zbd hb);(try omega))))
     all_goals first
      |(exfalso;omega)
      |(apply ret1;exact rfl;exact⟨by rw[hno],dX⟩)
      |skip
   ·obtain rfl:k=1:=by omega
    have hd1:decide (((1:Nat):Int)<((1:Nat):Int))=false:=by simp
    have hyes:l.all (fun v=>v==0)=true:=by
     rw[List.all_eq_true]
     intro v hv
     obtain⟨j,hj⟩:=List.getElem?_of_mem hv
     exact hgd j v (by have:=(gsi.1 hj).1;omega) hj
    repeat' (first|apply zah|apply zaa|apply zak|apply zaN|apply zag|apply zac hT;iterate 4 exact rfl|apply zan;iterate 2 exact rfl)
    all_goals first
     |(exfalso;omega)
     |(apply ret1;exact rfl;exact⟨by rw[hyes],dX⟩)
     |skip
  ·repeat' (first|apply zah|apply zaa|apply zam|apply zaj|apply zag|apply zac hT;iterate 4 exact rfl|apply zaA;(iterate 5 exact rfl);intro g1|(apply zab (hs:=(hM.mono (by simp)));iterate 7 exact rfl)|apply zbP hT;(iterate 8 exact rfl);(iterate 2 omega)|(apply zad;(iterate 5 exact rfl);first|(apply zaq hT;exact rfl;exact rfl;exact mX;exact rfl;exact rfl))|apply zan;iterate 2 exact rfl)
   all_goals try omega
   have hrd:zaz W (.blk g1 42 m.enc::h') (some ⟨g1,1,none⟩) 0 1 (((MsgR.nums m).drop 6).map (Value.int .i64)):=zaz.blk mem0 rfl rfl (fun v hv=>by
    obtain⟨y,_,rfl⟩:=lmm.1 hv
    rfl)
   have hll:((MsgR.nums m).drop 6).length=0:=rfl
   show AW _ _ _ _ _ _ _
   rw[show(Int.toNat ((6:Nat):Int))=6 from rfl]
   generalize (MsgR.nums m).drop 6=l at*
   refine za1 (α:=Nat) (E:=fun k=>[(13,.slice (some ⟨g1,1,none⟩) 0 0),(14,.int .i64 (0:Nat)),(15,.int .i64 k)]) (H:=fun _=>.blk g1 42 m.enc::h') (μ:=fun k=>0 - k)
    (S:=fun k=>k≤0∧∀(j:Nat) v,j<k→l[j]? =some v→(v==0)=true) 0 ⟨Nat.zero_le _,fun j v hj=>absurd hj (Nat.not_lt_zero _)⟩ ⟨rfl,rfl,rfl,trivial⟩ dX ?_
   rintro k ⟨hk,hgd⟩
   by_cases hlt:k<0
   ·obtain⟨v,hv⟩:∃v,l[k]? =some v:=⟨l[k]'(by omega),gge (by omega)⟩
    have hv2:l[(k:Int).toNat]? =some v:=by simpa using hv
    have hd1:decide ((k:Int)<((0:Nat):Int))=true:=by simp;omega
    have hix:=zeG (kd:=.i64) hv2
    by_cases hz:v=0
    ·repeat' (first|apply zah|apply zaa|apply zak|apply zaN|apply zag|apply zac hT;iterate 4 exact rfl|apply zan;iterate 2 exact rfl)
     all_goals first
      |(exfalso;omega)
      |exact zaD (k+1) (by(try dsimp only);omega) ⟨by(try dsimp only);omega,fun j w hj hw=>by
        by_cases e:j=k
        ·rw[e,hv]at hw;cases hw;rw[hz];rfl
        ·exact hgd j w (by(try dsimp only at hj);omega) hw⟩ ⟨rfl,rfl,rfl,trivial⟩ dX
      |skip
    ·have hno:l.all (fun v=>v==0)=false:=by
      rw[List.all_eq_false]
      exact⟨v,mog hv,by simpa using hz⟩
     repeat' (first|apply zah|apply zaa|apply zak|apply zaN|apply zag|apply zac hT;iterate 4 exact rfl|apply zan;iterate 2 exact rfl)
     all_goals first
      |(exfalso;omega)
      |(apply ret1;exact rfl;exact⟨by rw[hno],dX⟩)
      |skip
   ·obtain rfl:k=0:=by omega
    have hd1:decide (((0:Nat):Int)<((0:Nat):Int))=false:=by simp
    have hyes:l.all (fun v=>v==0)=true:=by
     rw[List.all_eq_true]
     intro v hv
     obtain⟨j,hj⟩:=List.getElem?_of_mem hv
     exact hgd j v (by have:=(gsi.1 hj).1;omega) hj
    repeat' (first|apply zah|apply zaa|apply zak|apply zaN|apply zag|apply zac hT;iterate 4 exact rfl|apply zan;iterate 2 exact rfl)
    all_goals first
     |(exfalso;omega)
     |(apply ret1;exact rfl;exact⟨by rw[hyes],dX⟩)
     |skip
theorem zg9 {a b:Nat}(ha:a<2^64)(hb:b<2^64):bitI .xor .u64 (a:Int) (b:Int)=((a ^^^ b:Nat):Int):=by
 show IntKind.u64.wrap ((BitVec.ofInt 64 (a:Int) ^^^ BitVec.ofInt 64 (b:Int)).toNat:Int)=_
 rw[BitVec.toNat_xor,BitVec.ofInt_natCast,BitVec.ofInt_natCast,BitVec.toNat_ofNat,BitVec.toNat_ofNat,Nat.mod_eq_of_lt ha,Nat.mod_eq_of_lt hb]
 have:=Nat.xor_lt_two_pow ha hb
 exact IntWalk.u64_in _ ⟨by omega,by omega⟩
def byV (b:Nat):Value:=.int .u8 (b:Int)
theorem zrD {l:List Nat}{i:Nat}{n:Nat}(h:l[i]? =some n):(l.map byV)[i*1]? =some (.int .u8 (n:Int)):=by simp[h];rfl
theorem zqV (x b:Nat):mixN x b=(x ^^^ b)*1099511628211%18446744073709551616:=rfl
theorem zn0 {α β:Type}{f:β→α→β}{l:List α}{k:Nat}{b:α}(h:l[k]? =some b)(x:β):(l.take (k+1)).foldl f x=f ((l.take k).foldl f x) b:=by
 rw[List.take_add_one,h,List.foldl_append];rfl
theorem zpJ {bs:List Nat}{k b:Nat}(h:bs[k]? =some b)(x:Nat):(bs.take (k+1)).foldl mixN x=mixN ((bs.take k).foldl mixN x) b:=zn0 h x
theorem zjQ (W:World)(h:List zao)(A:Option Addr)(c:Nat)(last:Nat)(bs:List Nat)(hl:last<2^64)(hbs:∀b∈bs,b<256)(hr:zaz W h A bs.length 1 (bs.map byV))(hb:bs.length≤1000000):
 zaw Tryz.prog W 97 [.int .u64 last,.slice A bs.length c] h (.int .u64 (zcf last bs:Nat)):=by
 refine zaw.ofD (fun h' hs=> ?_)
 have hrd:=hr.mono hs
 have hx0:=zg9 hl (show 1469598103934665603<2^64 by decide)
 rw[show((1469598103934665603:Nat):Int)=1469598103934665603 from by simp]at hx0
 have hx0l:last ^^^ 1469598103934665603<2^64:=ziS hl (by decide)
 unfold zcf
 generalize last ^^^ 1469598103934665603=x0 at*
 refine zaf Tryz.func97 rfl rfl Tryz.results97 Tryz.ntmps97 rfl rfl ?_
 refine zaI hrd rfl (fun hA=> ?_)
 repeat' (first|apply zah|apply zaa|apply zaj|apply zag|apply zac hT;iterate 4 exact rfl|apply zcR;(iterate 6 exact rfl);exact hx0)
 refine za1 (α:=Nat) (E:=fun k=>[(5,.int .u64 ((bs.take k).foldl mixN x0:Nat)),(10,.slice A bs.length c),(11,.int .i64 bs.length),(12,.int .i64 k)]) (H:=fun _=>h') (μ:=fun k=>bs.length - k)
  (S:=fun k=>k≤bs.length) 0 (Nat.zero_le _) ⟨rfl,rfl,rfl,rfl,trivial⟩ dX ?_
 intro k hk
 have hxl:(bs.take k).foldl mixN x0<2^64:=zkJ _ hx0l
 by_cases hlt:k<bs.length
 ·obtain⟨b,hbk⟩:∃b,bs[k]? =some b:=⟨bs[k]'(by omega),gge (by omega)⟩
  have hbk2:bs[(k:Int).toNat]? =some b:=by simpa using hbk
  have hA':=hA (by omega)
  have hd1:decide ((k:Int)<(bs.length:Int))=true:=by simp;omega
  have hb256:=hbs b (mog hbk)
  have hst:=zpJ hbk x0
  rw[zqV]at hst
  generalize (bs.take k).foldl mixN x0=x at*
  have hxb:=zg9 hxl (show b<2^64 by omega)
  have hix:=zrD hbk2
  have hme:((x ^^^ b:Nat):Int)*1099511628211%18446744073709551616=(((x ^^^ b)*1099511628211%18446744073709551616:Nat):Int):=by omega
  repeat' (first|apply zah|apply zaa|apply zam|apply zaj|apply zag|apply zac hT;iterate 4 exact rfl|(apply zaM hT;(iterate 4 exact rfl);(iterate 2 (first|omega)))|apply zaJ hT;(iterate 8 exact rfl);(iterate 2 omega);exact hA'|apply zad;(iterate 5 exact rfl);exact zbe hT rfl rfl hrd rfl hix|apply zje hT;(iterate 4 exact rfl);(iterate 2 omega)|apply zcR;(iterate 6 exact rfl);exact hxb|apply ziC hT;iterate 4 exact rfl|(apply zal;exact rfl;all_goals(intro hb;(try dsimp only at hb);(try simp only[hb]);(first|replace hb:=odt hb|replace hb:=odf hb);(try omega))))
  all_goals first
   |(exfalso;omega)
   |exact zaD (k+1) (by(try dsimp only);omega) (by(try dsimp only);omega) ⟨by rw[hst,←hme];rfl,rfl,rfl,rfl,trivial⟩ dX
   |skip
 ·obtain rfl:k=bs.length:=by omega
  have hd1:decide ((bs.length:Int)<(bs.length:Int))=false:=by simp
  rw[List.take_length]at*
  generalize bs.foldl mixN x0=x at*
  have hdv:x / 536870912<2^64:=Nat.lt_of_le_of_lt (Nat.div_le_self _ _) hxl
  have hxd:=zg9 hxl hdv
  have hsh:((x:Nat):Int) / ((2^29:Nat):Int)=((x / 536870912:Nat):Int):=by
   rw[show(2^29:Nat)=536870912 from rfl];omega
  rw[←hsh]at hxd
  repeat' (first|apply zah|apply zaa|apply zak|apply zaN|apply zag|apply zac hT;iterate 4 exact rfl|apply zm3 (n:=29);(iterate 6 exact rfl);exact nle rfl|apply zcR;(iterate 6 exact rfl);exact hxd|(apply zal;exact rfl;all_goals(intro hb;(try dsimp only at hb);(try simp only[hb]);(first|replace hb:=odt hb|replace hb:=odf hb);(try omega))))
  all_goals first
   |(exfalso;omega)
   |(apply ret1;exact rfl;exact⟨rfl,dX⟩)
   |skip
theorem zpK {a:Nat}(ha:a<2^64):a ^^^ 18446744073709551615=18446744073709551615 - a:=by
 have h:(BitVec.ofNat 64 a ^^^ BitVec.allOnes 64).toNat=(~~~ (BitVec.ofNat 64 a)).toNat:=by
  rw[BitVec.xor_allOnes]
 rw[BitVec.toNat_xor,BitVec.toNat_not,BitVec.toNat_ofNat,Nat.mod_eq_of_lt ha,BitVec.toNat_allOnes]at h
 exact h
theorem zn1 {n:Int}(hn:inW n):bitI .xor .u64 (IntKind.u64.wrap (n%18446744073709551616*2^(min (Int.toNat 1) IntKind.u64.bits))) (n / ((2^63:Nat):Int)%18446744073709551616)=((zigN n:Nat):Int):=by
 unfold inW at hn
 have e1:IntKind.u64.wrap (n%18446744073709551616*2^(min (Int.toNat 1) IntKind.u64.bits))=(n%18446744073709551616*2)%18446744073709551616:=by
  rw[IntKind.wrap_u64];rfl
 rw[e1]
 by_cases h0:n<0
 ·have e2:n / ((2^63:Nat):Int)%18446744073709551616=((18446744073709551615:Nat):Int):=by
   rw[show((2^63:Nat):Int)=9223372036854775808 from by simp];omega
  obtain⟨m,hm⟩:=Int.eq_ofNat_of_zero_le (show 0≤2*n+18446744073709551616 by omega)
  have e3:n%18446744073709551616*2%18446744073709551616=(m:Int):=by omega
  have hml:m<2^64:=by omega
  rw[e2,e3,zg9 hml (by omega),zpK hml]
  unfold zigN
  rw[if_pos h0]
  omega
 ·have e2:n / ((2^63:Nat):Int)%18446744073709551616=((0:Nat):Int):=by
   rw[show((2^63:Nat):Int)=9223372036854775808 from by simp];omega
  obtain⟨m,hm⟩:=Int.eq_ofNat_of_zero_le (show 0≤2*n by omega)
  have e3:n%18446744073709551616*2%18446744073709551616=(m:Int):=by omega
  have hml:m<2^64:=by omega
  rw[e2,e3,zg9 hml (by omega),Nat.xor_zero]
  unfold zigN
  rw[if_neg h0]
  omega
theorem zkP (W:World)(n:Int)(hn:inW n):zaw Tryz.prog W 173 [.int .i64 n] [] (.int .u64 (zigN n:Nat)):=by
 refine zaw.ofD (fun h' hs=> ?_)
 have ht:=zn1 hn
 refine zaf Tryz.func173 rfl rfl Tryz.results173 Tryz.ntmps173 rfl rfl ?_
 repeat' (first|apply zah|apply zaa|apply zak|apply zag|apply zac hT;iterate 4 exact rfl|apply ziC hT;iterate 4 exact rfl|apply zqe;(iterate 5 exact rfl);omega|apply zm3 (n:=63);(iterate 6 exact rfl);exact nle rfl|apply zcR;(iterate 6 exact rfl);exact ht)
 all_goals first
  |(apply ret1;exact rfl;exact⟨rfl,dX⟩)
  |skip
theorem zs1 (m:Nat)(hm:m<256):bitI .or .u8 (m:Int) 128=((m%128+128:Nat):Int):=by
 have key:∀m:Fin 256,bitI .or .u8 ((m.val:Nat):Int) 128=((m.val%128+128:Nat):Int):=by decide+kernel
 exact key ⟨m,hm⟩
theorem ziW {z:Nat}(h:¬z<128):oneN z=(z%128+128)::oneN (z / 128):=by
 rw[oneN];rw[dif_neg h]
theorem zex {z:Nat}(h:z<128):oneN z=[z]:=by
 rw[oneN];rw[dif_pos h]
theorem zqW :∀(z:Nat),∀b∈oneN z,b<256:=fun z=>by
 induction z using Nat.strongRecOn with
 |_ z ih=>
  intro b hb
  by_cases h:z<128
  ·rw[zex h]at hb
   rw[lms.1 hb];omega
  ·rw[ziW h]at hb
   rcases List.mem_cons.1 hb with rfl|hb
   ·omega
   ·exact ih (z / 128) (by omega) b hb
theorem zlz :∀(k z:Nat),z<128^(k+1)→(oneN z).length≤k+1
 |0,z,h=>by rw[zex (by simpa using h)];simp
 |k+1,z,h=>by
  by_cases hz:z<128
  ·rw[zex hz];simp
  ·rw[ziW hz]
   have:=zlz k (z / 128) (by
    rw[Nat.div_lt_iff_lt_mul (by decide)]
    rw[Nat.pow_succ]at h
    exact h)
   simp;omega
theorem zlA (l:List Int):∀b∈zdX l,b<256:=fun b hb=>by
 obtain⟨n,_,hn⟩:=List.mem_flatMap.1 hb
 exact zqW _ b hn
theorem zn2 {n:Int}(hn:inW n):zigN n<2^64:=by
 unfold inW at hn
 unfold zigN
 split<;>omega
theorem zfv {l:List Int}(h:∀n∈l,inW n):(zdX l).length≤10*l.length:=by
 induction l with
 |nil=>simp[zdX]
 |cons n l ih=>
  have h1:=zlz 9 (zigN n) (Nat.lt_of_lt_of_le (zn2 (h n mcs)) (by decide))
  have h2:=ih (fun m hm=>h m (mcm _ hm))
  have e:zdX (n::l)=oneN (zigN n)++zdX l:=rfl
  rw[e,lla,List.length_cons]
  omega
theorem zmm {l:List Int}{k:Nat}{n:Int}(h:l[k]? =some n):zdX (l.take (k+1))=zdX (l.take k)++oneN (zigN n):=by
 rw[List.take_add_one,h]
 unfold zdX
 rw[List.flatMap_append]
 simp
theorem zpL (W:World)(h:List zao)(A:Option Addr)(c:Nat)(l:List Int)(hwl:∀n∈l,inW n)(hr:zaz W h A l.length 1 (l.map (Value.int .i64)))(hb:l.length≤1000):
 zax Tryz.prog W 134 [.slice A l.length c] h (fun v h'=>∃A' c',v=.slice A' (zdX l).length c'∧h'=.own A' (zdX l).length c' 5 1 ((zdX l).map byV)::h):=by
 refine zax.dropTo ?_
 have hpl:=zfv hwl
 refine zaf Tryz.func134 rfl rfl Tryz.results134 Tryz.ntmps134 rfl rfl ?_
 refine zaI hr rfl (fun hA=> ?_)
 repeat' (first|apply zah|apply zaa|apply zaj|apply zag|apply zac hT;iterate 4 exact rfl)
 refine zbI (fun w hw=>⟨_,hw.own_nil 5 1,?_⟩)
 refine za1 (α:=Nat×Option Addr×Nat) (E:=fun x=>[(3,.slice x.2.1 (zdX (l.take x.1)).length x.2.2),(7,.slice A l.length c),(8,.int .i64 l.length),(9,.int .i64 x.1)]) (H:=fun x=>.own x.2.1 (zdX (l.take x.1)).length x.2.2 5 1 ((zdX (l.take x.1)).map byV)::h) (μ:=fun x=>l.length - x.1)
  (S:=fun x=>x.1≤l.length) (0,none,0) (Nat.zero_le _) ⟨rfl,rfl,rfl,rfl,trivial⟩ dX ?_
 rintro⟨k,A3,c3⟩ hk
 dsimp only at hk ⊢
 have hlk:(zdX (l.take k)).length≤10*l.length:=Nat.le_trans (zfv (fun n hn=>hwl n (List.mem_of_mem_take hn))) (by simp;omega)
 by_cases hlt:k<l.length
 ·obtain⟨n,hn⟩:∃n,l[k]? =some n:=⟨l[k]'(by omega),gge (by omega)⟩
  have hn2:l[(k:Int).toNat]? =some n:=by simpa using hn
  have hA':=hA (by omega)
  have hd1:decide ((k:Int)<(l.length:Int))=true:=by simp;omega
  have hnw:=hwl n (mog hn)
  have hT1:=zkP W n hnw
  have hst:=zmm hn
  have hlk1:(zdX (l.take (k+1))).length≤10*l.length:=Nat.le_trans (zfv (fun n hn=>hwl n (List.mem_of_mem_take hn))) (by simp;omega)
  have hix:=zeG (kd:=.i64) hn2
  have hz0:=zn2 hnw
  generalize zdX (l.take k)=p0 at*
  obtain⟨p1,hp1e⟩:∃p,zdX (l.take (k+1))=p:=⟨_,rfl⟩
  rw[hp1e]at hst hlk1
  repeat' (first|apply zah|apply zaa|apply zam|apply zaj|apply zag|apply zac hT;iterate 4 exact rfl|apply zaJ hT;(iterate 8 exact rfl);(iterate 2 omega);exact hA'|(apply zad;(iterate 5 exact rfl);exact zbe hT rfl rfl (hr.mono kX) rfl hix)|(apply zab (hs:=(hT1.mono (by simp)));iterate 7 exact rfl)|(apply zal;exact rfl;all_goals(intro hb;(try dsimp only at hb);(try simp only[hb]);(first|replace hb:=odt hb|replace hb:=odf hb);(try omega))))
  all_goals try omega
  refine za1 (α:=Nat×List Nat×Option Addr×Nat) (E:=fun x=>[(3,.slice x.2.2.1 x.2.1.length x.2.2.2),(6,.int .u64 (x.1:Nat)),(7,.slice A l.length c),(8,.int .i64 l.length),(9,.int .i64 k)]) (H:=fun x=>.own x.2.2.1 x.2.1.length x.2.2.2 5 1 (x.2.1.map byV)::h) (μ:=fun x=>x.1)
   (S:=fun x=>x.1<2^64∧x.2.1++oneN x.1=p1) (zigN n,p0,A3,c3) ⟨hz0,hst.symm⟩ ⟨rfl,rfl,rfl,rfl,rfl,trivial⟩ dX ?_
  rintro⟨z,bs,A4,c4⟩ ⟨hz,hbs⟩
  dsimp only at hz hbs ⊢
  have hbl:bs.length≤p1.length:=by rw[←hbs];simp
  by_cases hz1:z<128
  ·have hd2:decide (((z:Nat):Int)≥128)=false:=by simp;omega
   rw[zex hz1]at hbs
   have hm:((z:Nat):Int)=IntKind.u8.wrap z:=(IntWalk.u8_in _ ⟨by omega,by omega⟩).symm
   repeat' (first|apply zah|apply zaa|apply zaN|apply zag|apply zac hT;iterate 4 exact rfl|(apply zaM hT;(iterate 4 exact rfl);(iterate 2 (first|omega)))|apply zcQ hT;(iterate 4 exact rfl);rw[←hm]|apply zaB hT;(iterate 12 exact rfl);intro g28|(apply zbb hT;(iterate 10 exact rfl);exact sX;exact zaz.own mem0 rfl (List.all_eq_true.1 rfl);omega;(show(_:Nat)*1≤_;omega);intro A' c')|(apply zal;exact rfl;all_goals(intro hb;(try dsimp only at hb);(try simp only[hb]);(first|replace hb:=odt hb|replace hb:=odf hb);(try omega))))
   all_goals first
    |(exfalso;omega)
    |(refine zaD (k+1,A',c') (by dsimp only;omega) (by dsimp only;omega) ⟨?_,rfl,rfl,rfl,trivial⟩ ?_
      ·dsimp only;rw[hp1e,←hbs,lla];rfl
      ·dsimp only;rw[hp1e,←hbs,lla,List.map_append];exact dX)
  ·have hd2:decide (((z:Nat):Int)≥128)=true:=by simp;omega
   rw[ziW hz1]at hbs
   have hm:((z%256:Nat):Int)=IntKind.u8.wrap z:=by rw[IntKind.wrap_u8];omega
   have hor:bitI .or .u8 ((z%256:Nat):Int) 128=((z%128+128:Nat):Int):=by rw[zs1 _ (by omega)];congr 1;omega
   have hsh:((z:Nat):Int) / ((2^7:Nat):Int)=((z / 128:Nat):Int):=by
    rw[show((2^7:Nat):Int)=128 from by simp];omega
   repeat' (first|apply zah|apply zaa|apply zam|apply zaj|apply zag|apply zac hT;iterate 4 exact rfl|apply zcQ hT;(iterate 4 exact rfl);rw[←hm]|apply zcR;(iterate 6 exact rfl);exact hor|apply zm3 (n:=7);(iterate 6 exact rfl);exact nle rfl;rw[hsh]|apply zaB hT;(iterate 12 exact rfl);intro g21|(apply zbb hT;(iterate 10 exact rfl);exact sX;exact zaz.own mem0 rfl (List.all_eq_true.1 rfl);omega;(show(_:Nat)*1≤_;omega);intro A' c')|(apply zal;exact rfl;all_goals(intro hb;(try dsimp only at hb);(try simp only[hb]);(first|replace hb:=odt hb|replace hb:=odf hb);(try omega))))
   all_goals first
    |(exfalso;omega)
    |(refine zaD (Q:=fun _ _ _=>True) (z / 128,bs++[z%128+128],A',c') (by dsimp only;omega) ⟨by dsimp only;omega,by dsimp only;rw[List.append_assoc];exact hbs⟩ ⟨?_,rfl,rfl,rfl,rfl,trivial⟩ ?_
      ·dsimp only;rw[lla];rfl
      ·dsimp only;rw[lla,List.map_append];exact dX)
 ·obtain rfl:k=l.length:=by omega
  have hd1:decide ((l.length:Int)<(l.length:Int))=false:=by simp
  rw[List.take_length]at*
  repeat' (first|apply zah|apply zaa|apply zak|apply zaN|apply zag|apply zac hT;iterate 4 exact rfl|(apply zal;exact rfl;all_goals(intro hb;(try dsimp only at hb);(try simp only[hb]);(first|replace hb:=odt hb|replace hb:=odf hb);(try omega))))
  all_goals first
   |(exfalso;omega)
   |(apply ret1;exact rfl;exact⟨_,zaX,A3,c3,rfl,rfl⟩)
def zeK (t:zaL):Prop:=∀n∈[t.id,t.bond,t.buyer,t.seller,t.price,t.qty,t.ask,t.tick],inW n
theorem zs2 {z a b c d e f g i:Value}(ha:a.cells= #[a])(hb:b.cells= #[b])(hc:c.cells= #[c])(hd:d.cells= #[d])(he:e.cells= #[e])(hf:f.cells= #[f])(hg:g.cells= #[g])(hi:i.cells= #[i]):
 zgE (fun i=>some (i*1,1)) (repZ [z] 8) [(0,a),(1,b),(2,c),(3,d),(4,e),(5,f),(6,g),(7,i)]=some [a,b,c,d,e,f,g,i]:=by
 simp[zgE,lay,repZ,ha,hb,hc,hd,he,hf,hg,hi]
theorem zh5 {t:zaL}(ht:zeK t):(zbR t).length≤80:=zfv ht
theorem zh6 (W:World)(h:List zao)(t:zaL)(ht:zeK t):
 zax Tryz.prog W 98 [.agg t.enc.toArray] h (fun v h'=>∃A' c',v=.slice A' (zbR t).length c'∧h'=.own A' (zbR t).length c' 5 1 ((zbR t).map byV)::h):=by
 have hP:∀h1 g,zax Tryz.prog W 134 [.slice (some ⟨g,0,none⟩) 8 8] (.own (some ⟨g,0,none⟩) 8 8 2 1 [.int .i64 t.id,.int .i64 t.bond,.int .i64 t.buyer,.int .i64 t.seller,.int .i64 t.price,.int .i64 t.qty,.int .i64 t.ask,.int .i64 t.tick]::h1) (fun v h'=>∃A' c',v=.slice A' (zbR t).length c'∧h'=.own A' (zbR t).length c' 5 1 ((zbR t).map byV)::.own (some ⟨g,0,none⟩) 8 8 2 1 [.int .i64 t.id,.int .i64 t.bond,.int .i64 t.buyer,.int .i64 t.seller,.int .i64 t.price,.int .i64 t.qty,.int .i64 t.ask,.int .i64 t.tick]::h1):=fun h1 g=>
  zpL W _ (some ⟨g,0,none⟩) 8 [t.id,t.bond,t.buyer,t.seller,t.price,t.qty,t.ask,t.tick] ht (zaz.own mem0 rfl (List.all_eq_true.1 rfl)) (by simp)
 generalize zbR t=bs at*
 refine zax.dropTo ?_
 refine zaf Tryz.func98 rfl rfl Tryz.results98 Tryz.ntmps98 rfl rfl ?_
 repeat' (first|apply zah|apply zaa|apply zak|apply zag|apply zac hT;iterate 4 exact rfl|apply zaA;(iterate 5 exact rfl);intro g1|apply zaB hT (cs:=[.int .i64 t.id,.int .i64 t.bond,.int .i64 t.buyer,.int .i64 t.seller,.int .i64 t.price,.int .i64 t.qty,.int .i64 t.ask,.int .i64 t.tick]);(iterate 9 exact rfl);exact zs2 rfl rfl rfl rfl rfl rfl rfl rfl;(iterate 2 exact rfl);intro g|apply zau (hs:=(hP _ g));(iterate 7 exact rfl);rintro _ _ ⟨A1,c1,rfl,rfl⟩|(apply zad;(iterate 5 exact rfl);first|(apply zaq hT;exact rfl;exact rfl;exact mX;exact rfl;exact rfl)))
 all_goals(apply ret1;exact rfl;exact⟨_,dX,A1,c1,rfl,rfl⟩)
theorem zlB (W:World)(F:List zao)(p:Nat)(A:Option Addr)(c:Nat)(l:List zaL)(x:Nat)(t0 t:zaL)(hx:x<2^64)(hb:l.length≤1000000)(e:{t0 with id:=(l.length:Int)+1}=t)(ht:zeK t):
 zax Tryz.prog W 189 [.pointer (some ⟨p,0,none⟩),.agg t0.enc.toArray] (.blk p 149 [.slice A l.length c,.int .u64 x]::.own A l.length c 30 8 (l.flatMap zaL.enc)::F)
  (fun v h'=>v=.agg t.enc.toArray∧∃A' c',h'=.blk p 149 [.slice A' (l++[t]).length c',.int .u64 (zcf x (zbR t):Nat)]::.own A' (l++[t]).length c' 30 8 ((l++[t]).flatMap zaL.enc)::F):=by
 have hB:=fun h'=>zh6 W h' t ht
 have hC:=fun h' A' c' hr=>zjQ W h' A' c' x (zbR t) hx (zlA _) hr (Nat.le_trans (zh5 ht) (by omega))
 refine zax.dropTo ?_
 refine zaf Tryz.func189 rfl rfl Tryz.results189 Tryz.ntmps189 rfl rfl ?_
 obtain⟨e1,e2,e3,e4,e5,e6,e7,e8⟩:=t0
 subst e
 repeat' (first|apply zah|apply zaa|apply zak|apply zam|apply zag|apply zac hT;iterate 4 exact rfl|(apply zaM hT;(iterate 4 exact rfl);(iterate 2 (first|omega)))|apply zaA;(iterate 5 exact rfl);intro g1|(apply zay hT;(iterate 5 exact rfl);first|(fail_if_success (have q:=g3));intro g3)|(apply zar hT;(iterate 6 exact rfl);exact sX;(iterate 3 exact rfl);exact nle rfl)|(apply zaB hT (cs:=zaL.enc ⟨(l.length:Int)+1,e2,e3,e4,e5,e6,e7,e8⟩);(iterate 12 exact rfl);intro g)|(apply zbb hT;(iterate 10 exact rfl);exact sX;exact zaz.own mem0 rfl (zaL.enc_one _);omega;(show(_:Nat)*64≤_;omega);intro A' c')|(apply zaC [] [98] hmix;decide+kernel)|(apply zcz (hs:=(hB _));(iterate 7 exact rfl);(rintro _ _ ⟨A1,c1,rfl,rfl⟩;refine⟨[_],rfl,?_⟩))|(apply zab (hs:=(hC _ A1 c1 (zaz.own mem0 (by simp) (fun v hv=>by obtain⟨y,_,rfl⟩:=lmm.1 hv;rfl))));iterate 7 exact rfl)|(apply zad;(iterate 5 exact rfl);first|(apply zaq hT;exact rfl;exact rfl;exact mX;exact rfl;exact rfl)|(apply zaF hT;exact rfl;exact rfl;exact mX;exact rfl))|(apply zan;iterate 2 exact rfl))
 all_goals(apply zhv;exact rfl;(apply zaF hT;exact rfl;exact rfl;exact mX;exact rfl);exact⟨_,by(rw[lla,List.flatMap_append];exact dX),rfl,A',c',rfl⟩)
def zqX (t:zaL)(s who other:Int):OutR:=outM who 28 [t.id,s,t.bond,t.price,t.qty,other]
theorem zpM (W:World)(t:zaL)(s who other:Int):zaw Tryz.prog W 105 [.agg t.enc.toArray,.int .i64 s,.int .i64 who,.int .i64 other] [] (.agg (zqX t s who other).enc.toArray):=by
 refine zaw.ofD (fun h' hs=> ?_)
 refine zaf Tryz.func105 rfl rfl Tryz.results105 Tryz.ntmps105 rfl rfl ?_
 repeat' (first|apply zah|apply zaa|apply zak|apply zag|apply zac hT;iterate 4 exact rfl|apply zaA;(iterate 5 exact rfl);intro g4|(apply zay hT;(iterate 5 exact rfl);first|(fail_if_success (have q:=g8));intro g8|(fail_if_success (have q:=g9));intro g9)|(apply zb8 hT (cs:=[.int .i64 t.id,.int .i64 s,.int .i64 t.bond,.int .i64 t.price,.int .i64 t.qty,.int .i64 other]);iterate 4 exact rfl)|(apply zaE hT (cs:=(zqX t s who other).msg.enc);iterate 4 exact rfl)|(apply zaE hT (cs:=(zqX t s who other).enc);iterate 4 exact rfl)|(apply zar hT;(iterate 6 exact rfl);exact sX;(iterate 3 exact rfl);exact nle rfl)|(apply zad;(iterate 5 exact rfl);first|(apply zaq hT;exact rfl;exact rfl;exact mX;exact rfl;exact rfl)|(apply zaF hT;exact rfl;exact rfl;exact mX;exact rfl)))
 all_goals first
  |(apply zhv;exact rfl;(apply zaF hT;exact rfl;exact rfl;exact mX;exact rfl);exact⟨rfl,dX⟩)
  |skip
theorem zn3 (W:World)(h:List zao)(t:zaL):zax Tryz.prog W 73 [.agg t.enc.toArray] h (fun v h'=>∃g,v=.slice (some ⟨g,0,none⟩) 2 2∧h'=.own (some ⟨g,0,none⟩) 2 2 44 8 ((zdE t).flatMap OutR.enc)::h):=by
 refine zax.dropTo ?_
 refine zaf Tryz.func73 rfl rfl Tryz.results73 Tryz.ntmps73 rfl rfl ?_
 repeat' (first|apply zah|apply zaa|apply zak|apply zag|apply zac hT;iterate 4 exact rfl|apply zaC [105] [] hmix;decide+kernel|apply zaA;(iterate 5 exact rfl);intro g1|(apply zab (hs:=((zpM W t _ _ _).mono (by simp)));iterate 7 exact rfl)|apply zaB hT;(iterate 12 exact rfl);intro g|(apply zad;(iterate 5 exact rfl);first|(apply zaq hT;exact rfl;exact rfl;exact mX;exact rfl;exact rfl)|(apply zaF hT;exact rfl;exact rfl;exact mX;exact rfl)))
 all_goals first
  |(apply ret1;exact rfl;exact⟨_,by(show za7 _ (.own (some ⟨g,0,none⟩) 2 2 44 8 ((zdE t).flatMap OutR.enc)::h));exact dX,g,rfl,rfl⟩)
  |skip
def okI (n:Int):Value:=.tuple #[.int .i64 (if inI n then n else 0),.bool (inI n)]
theorem ziX (W:World)(a b:Int)(ha:inW a)(hb:inW b):zaw Tryz.prog W 27 [.int .i64 a,.int .i64 b] [] (okI (a+b)):=by
 unfold inW at*
 refine zaw.ofD (fun h' hs=> ?_)
 unfold okI
 cases hI:inI (a+b)
 ·have hr:=zqC hI
  refine zaf Tryz.func27 rfl rfl Tryz.results27 Tryz.ntmps27 rfl rfl ?_
  repeat' (first|apply zah|apply zaa|apply zak|apply zag|apply zac hT;iterate 4 exact rfl|apply zaK;iterate 3 exact rfl|(apply zaM hT;(iterate 4 exact rfl);(iterate 2 (first|omega)))|apply zas;iterate 2 exact rfl|(apply zaH;exact rfl;all_goals(intro hb;(fail_if_success (change true=true at hb));(fail_if_success (change false=false at hb));(try dsimp only at hb);(try simp only[hb]);(first|replace hb:=odt hb|replace hb:=odf hb);(try omega)))|(apply zal;exact rfl;all_goals(intro hb;(try dsimp only at hb);(try simp only[hb]);(first|replace hb:=odt hb|replace hb:=odf hb);(try omega))))
  all_goals first
   |(exfalso;omega)
   |(apply ret2;exact rfl;exact rfl;exact⟨rfl,dX⟩)
   |skip
 ·have hr:=zeP hI
  refine zaf Tryz.func27 rfl rfl Tryz.results27 Tryz.ntmps27 rfl rfl ?_
  repeat' (first|apply zah|apply zaa|apply zak|apply zam|apply zag|apply zac hT;iterate 4 exact rfl|apply zaK;iterate 3 exact rfl|(apply zaM hT;(iterate 4 exact rfl);(iterate 2 (first|omega)))|apply zan;iterate 2 exact rfl|(apply zaH;exact rfl;all_goals(intro hb;(fail_if_success (change true=true at hb));(fail_if_success (change false=false at hb));(try dsimp only at hb);(try simp only[hb]);(first|replace hb:=odt hb|replace hb:=odf hb);(try omega)))|(apply zal;exact rfl;all_goals(intro hb;(try dsimp only at hb);(try simp only[hb]);(first|replace hb:=odt hb|replace hb:=odf hb);(try omega))))
  all_goals first
   |(exfalso;omega)
   |(apply ret2;exact rfl;exact rfl;exact⟨rfl,dX⟩)
   |skip
theorem zlC (W:World)(a b:Int)(ha:inW a)(hb:inW b):zaw Tryz.prog W 28 [.int .i64 a,.int .i64 b] [] (okI (a - b)):=by
 unfold inW at*
 refine zaw.ofD (fun h' hs=> ?_)
 unfold okI
 cases hI:inI (a - b)
 ·have hr:=zqC hI
  refine zaf Tryz.func28 rfl rfl Tryz.results28 Tryz.ntmps28 rfl rfl ?_
  repeat' (first|apply zah|apply zaa|apply zak|apply zag|apply zac hT;iterate 4 exact rfl|apply zaK;iterate 3 exact rfl|(apply zaM hT;(iterate 4 exact rfl);(iterate 2 (first|omega)))|apply zas;iterate 2 exact rfl|(apply zaH;exact rfl;all_goals(intro hb;(fail_if_success (change true=true at hb));(fail_if_success (change false=false at hb));(try dsimp only at hb);(try simp only[hb]);(first|replace hb:=odt hb|replace hb:=odf hb);(try omega)))|(apply zal;exact rfl;all_goals(intro hb;(try dsimp only at hb);(try simp only[hb]);(first|replace hb:=odt hb|replace hb:=odf hb);(try omega))))
  all_goals first
   |(exfalso;omega)
   |(apply ret2;exact rfl;exact rfl;exact⟨rfl,dX⟩)
   |skip
 ·have hr:=zeP hI
  refine zaf Tryz.func28 rfl rfl Tryz.results28 Tryz.ntmps28 rfl rfl ?_
  repeat' (first|apply zah|apply zaa|apply zak|apply zam|apply zag|apply zac hT;iterate 4 exact rfl|apply zaK;iterate 3 exact rfl|(apply zaM hT;(iterate 4 exact rfl);(iterate 2 (first|omega)))|apply zan;iterate 2 exact rfl|(apply zaH;exact rfl;all_goals(intro hb;(fail_if_success (change true=true at hb));(fail_if_success (change false=false at hb));(try dsimp only at hb);(try simp only[hb]);(first|replace hb:=odt hb|replace hb:=odf hb);(try omega)))|(apply zal;exact rfl;all_goals(intro hb;(try dsimp only at hb);(try simp only[hb]);(first|replace hb:=odt hb|replace hb:=odf hb);(try omega))))
  all_goals first
   |(exfalso;omega)
   |(apply ret2;exact rfl;exact rfl;exact⟨rfl,dX⟩)
   |skip
theorem zh7 (W:World)(n:Nat)(hn:n<340282366920938463463374607431768211456):zaw Tryz.prog W 26 [.agg (ziF n).toArray] [] (okI n):=by
 refine zaw.ofD (fun h' hs=> ?_)
 unfold okI
 cases hI:inI (n:Int)
 ·have hr:=zqC hI
  refine zaf Tryz.func26 rfl rfl Tryz.results26 Tryz.ntmps26 rfl rfl ?_
  repeat' (first|apply zah|apply zaa|apply zak|apply zag|apply zac hT;iterate 4 exact rfl|apply zaK;iterate 3 exact rfl|(apply zad;(iterate 5 exact rfl);first|(apply zaq hT;exact rfl;exact rfl;exact mX;exact rfl;exact rfl))|apply zaA;(iterate 5 exact rfl);intro _|apply zas;iterate 2 exact rfl|(apply zaH;exact rfl;all_goals(intro hb;(fail_if_success (change true=true at hb));(fail_if_success (change false=false at hb));(try dsimp only at hb);(try simp only[hb]);(first|replace hb:=odt hb|replace hb:=odf hb);(try omega)))|(apply zal;exact rfl;all_goals(intro hb;(try dsimp only at hb);(try simp only[hb]);(first|replace hb:=odt hb|replace hb:=odf hb);(try omega))))
  all_goals first
   |(exfalso;omega)
   |(apply ret2;exact rfl;exact rfl;exact⟨rfl,dX⟩)
   |skip
 ·have hr:=zeP hI
  refine zaf Tryz.func26 rfl rfl Tryz.results26 Tryz.ntmps26 rfl rfl ?_
  repeat' (first|apply zah|apply zaa|apply zak|apply zam|apply zag|apply zac hT;iterate 4 exact rfl|(apply zaM hT;(iterate 4 exact rfl);(iterate 2 (first|omega)))|(apply zad;(iterate 5 exact rfl);first|(apply zaq hT;exact rfl;exact rfl;exact mX;exact rfl;exact rfl))|apply zaA;(iterate 5 exact rfl);intro _|(apply zaH;exact rfl;all_goals(intro hb;(fail_if_success (change true=true at hb));(fail_if_success (change false=false at hb));(try dsimp only at hb);(try simp only[hb]);(first|replace hb:=odt hb|replace hb:=odf hb);(try omega)))|(apply zal;exact rfl;all_goals(intro hb;(try dsimp only at hb);(try simp only[hb]);(first|replace hb:=odt hb|replace hb:=odf hb);(try omega))))
  all_goals first
   |(exfalso;omega)
   |(apply ret2;exact rfl;exact rfl;exact⟨by simp[Nat.mod_eq_of_lt (show n<18446744073709551616 by omega)],dX⟩)
   |skip
theorem zgp {x y:zao}{h:List zao}(hx:x∈h)(hy:y∈h):∀c∈[x,y],c∈h:=fun c hc=>by
 rcases List.mem_cons.1 hc with rfl|hc
 ·exact hx
 ·rw[lms.1 hc];exact hy
def zek (cash:List Int)(rs:List PRow)(who bond:Int):Bool:=decide (0≤who)&&(decide (who<cash.length)&&(decide (0≤bond)&&decide (bond<((rs[who.toNat]?).map fun r=>r.l.length).getD 0)))
theorem zlD (W:World)(p:Nat)(AC:Option Addr)(cC:Nat)(AR:Option Addr)(cR:Nat)(cash:List Int)(rs:List PRow)(hl:rs.length=cash.length)(who bond:Int):
 zaw Tryz.prog W 24 [.pointer (some ⟨p,0,none⟩),.int .i64 who,.int .i64 bond] [.blk p 69 [.slice AR rs.length cR,.slice AC cash.length cC],.own AR rs.length cR 66 1 (rs.map PRow.hd)] (.bool (zek cash rs who bond)):=by
 refine zaw.ofD (fun h' hs=> ?_)
 have m0:=hs _ mem0
 have m1:=hs _ mem1
 have hrd:zaz W h' AR rs.length 1 (rs.map PRow.hd):=zaz.own m1 (by simp) (fun v hv=>by
  obtain⟨y,_,rfl⟩:=lmm.1 hv
  rfl)
 refine zaf Tryz.func24 rfl rfl Tryz.results24 Tryz.ntmps24 rfl rfl ?_
 refine zaI hrd rfl (fun hA=> ?_)
 by_cases hw:0≤who∧who<cash.length
 ·obtain⟨r,hr⟩:∃r,rs[who.toNat]? =some r:=⟨rs[who.toNat]'(by omega),gge (by omega)⟩
  have hA':=hA (by omega)
  have hix:(rs.map PRow.hd)[who.toNat*1]? =some (.slice r.A r.l.length r.c):=by simp[hr];rfl
  have hv:zek cash rs who bond=(decide (0≤bond)&&decide (bond<r.l.length)):=by
   unfold zek
   rw[hr,decide_eq_true hw.1,decide_eq_true hw.2];rfl
  rw[hv]
  repeat' (first|apply zah|apply zaa|apply zak|apply zag|apply zac hT;iterate 4 exact rfl|apply zaK;iterate 3 exact rfl|apply zaJ hT;(iterate 8 exact rfl);(iterate 2 omega);exact hA'|apply zad;(iterate 5 exact rfl);exact zbe hT rfl rfl hrd rfl hix|(apply zad;(iterate 5 exact rfl);first|(apply zaq hT;exact rfl;exact rfl;(repeat(first|exact m0));exact rfl;exact rfl))|(apply zaH;exact rfl;all_goals(intro hb;(fail_if_success (change true=true at hb));(fail_if_success (change false=false at hb));(try dsimp only at hb);(try simp only[hb]);(first|replace hb:=odt hb|replace hb:=odf hb);(try omega))))
  all_goals first
   |(exfalso;omega)
   |(apply ret1;exact rfl;exact⟨by(first|simp_all;done),dX⟩)
   |skip
 ·have hv:zek cash rs who bond=false:=by
   unfold zek
   by_cases h1:0≤who
   ·rw[decide_eq_false (show ¬who<cash.length by omega)];simp
   ·rw[decide_eq_false h1];simp
  rw[hv]
  repeat' (first|apply zah|apply zaa|apply zak|apply zag|apply zac hT;iterate 4 exact rfl|apply zaK;iterate 3 exact rfl|(apply zad;(iterate 5 exact rfl);first|(apply zaq hT;exact rfl;exact rfl;(repeat(first|exact m0));exact rfl;exact rfl))|(apply zaH;exact rfl;all_goals(intro hb;(fail_if_success (change true=true at hb));(fail_if_success (change false=false at hb));(try dsimp only at hb);(try simp only[hb]);(first|replace hb:=odt hb|replace hb:=odf hb);(try omega))))
  all_goals first
   |(exfalso;omega)
   |(apply ret1;exact rfl;exact⟨rfl,dX⟩)
   |skip
def zkQ (cash:List Int)(who:Int):Int:=if who<0 then 0 else(cash[who.toNat]?).getD 0
theorem zpN (W:World)(p:Nat)(AC:Option Addr)(cC:Nat)(AR:Option Addr)(cR:Nat)(cash:List Int)(rs:List PRow)(hl:rs.length=cash.length)(h0:∀r∈rs,0<r.l.length)(who:Int):
 zaw Tryz.prog W 34 [.pointer (some ⟨p,0,none⟩),.int .i64 who] [.blk p 69 [.slice AR rs.length cR,.slice AC cash.length cC],.own AR rs.length cR 66 1 (rs.map PRow.hd),.own AC cash.length cC 2 1 (cash.map (Value.int .i64))] (.int .i64 (zkQ cash who)):=by
 refine zaw.ofD (fun h' hs=> ?_)
 have m0:=hs _ mem0
 have m1:=hs _ mem1
 have m2:=hs _ mem2
 have hI:=(zlD W p AC cC AR cR cash rs hl who 0).mono (h':=h') (zgp m0 m1)
 have hrd:zaz W h' AC cash.length 1 (cash.map (Value.int .i64)):=zaz.own m2 (by simp) (fun v hv=>by
  obtain⟨y,_,rfl⟩:=lmm.1 hv
  rfl)
 refine zaf Tryz.func34 rfl rfl Tryz.results34 Tryz.ntmps34 rfl rfl ?_
 refine zaI hrd rfl (fun hA=> ?_)
 by_cases hw:0≤who∧who<cash.length
 ·obtain⟨r,hr⟩:∃r,rs[who.toNat]? =some r:=⟨rs[who.toNat]'(by omega),gge (by omega)⟩
  obtain⟨n,hn⟩:∃n,cash[who.toNat]? =some n:=⟨cash[who.toNat]'(by omega),gge (by omega)⟩
  have hA':=hA (by omega)
  have hix:(cash.map (Value.int .i64))[who.toNat*1]? =some (.int .i64 n):=by simp[hn]
  have hrl:=h0 r (mog hr)
  have hv:zek cash rs who 0=true:=by
   unfold zek
   rw[hr,decide_eq_true hw.1,decide_eq_true hw.2];simp;omega
  have hc:zkQ cash who=n:=by unfold zkQ;rw[if_neg (by omega),hn];rfl
  rw[hv]at hI
  rw[hc]
  repeat' (first|apply zah|apply zaa|apply zak|apply zam|apply zag|apply zac hT;iterate 4 exact rfl|(apply zab (hs:=(hI.mono kX));iterate 7 exact rfl)|apply zaJ hT;(iterate 8 exact rfl);(iterate 2 omega);exact hA'|apply zad;(iterate 5 exact rfl);exact zbe hT rfl rfl hrd rfl hix|(apply zad;(iterate 5 exact rfl);first|(apply zaq hT;exact rfl;exact rfl;(repeat(first|exact m0));exact rfl;exact rfl))|apply zan;iterate 2 exact rfl)
  all_goals first
   |(exfalso;omega)
   |(apply ret1;exact rfl;exact⟨rfl,dX⟩)
   |skip
 ·have hv:zek cash rs who 0=false:=by
   unfold zek
   by_cases h1:0≤who
   ·rw[decide_eq_false (show ¬who<cash.length by omega)];simp
   ·rw[decide_eq_false h1];simp
  have hc:zkQ cash who=0:=by
   unfold zkQ
   split
   ·rfl
   ·rw[List.getElem?_eq_none (by omega)];rfl
  rw[hv]at hI
  rw[hc]
  repeat' (first|apply zah|apply zaa|apply zak|apply zag|apply zac hT;iterate 4 exact rfl|(apply zab (hs:=(hI.mono kX));iterate 7 exact rfl)|apply zas;iterate 2 exact rfl)
  all_goals first
   |(exfalso;omega)
   |(apply ret1;exact rfl;exact⟨rfl,dX⟩)
   |skip
end Go.Proofs.YteocfhdocpeokaaGreat
namespace Go.Proofs.YteocfhdocpeokaaGreat
open Go Go.Sl
def zc2 :List zaL→Ps→Option Ps
 |[],p=>some p
 |t::l,p=>if putE p t=0 then zc2 l (putP p t)else none
def zeL (np nb:Nat):Ps:=⟨List.replicate np 0,List.replicate np (List.replicate nb 0)⟩
def ze2 (nb:Nat)(w p:Ps)(i:Nat):Bool:=zb1 w i==zb1 p i&&(List.range nb).all fun(k:Nat)=>zcv w i k==zcv p i k
def eqPs (np nb:Nat)(w p:Ps):Bool:=(List.range np).all (ze2 nb w p)
def zn4 (np nb:Nat)(l:List zaL)(p:Ps):Bool:=match zc2 l (zeL np nb)with
 |none=>false
 |some w=>eqPs np nb w p
structure PsOK (np nb:Nat)(p:Ps):Prop where
 nc:p.cash.length=np
 np:p.pos.length=np
 row:∀r∈p.pos,r.length=nb
 wc:∀n∈p.cash,inW n
 wr:∀r∈p.pos,∀n∈r,inW n
theorem zfw (np nb:Nat):PsOK np nb (zeL np nb):=by
 refine⟨by simp[zeL],by simp[zeL],fun r hr=> ?_,fun n hn=> ?_,fun r hr n hn=> ?_⟩
 ·rw[(List.mem_replicate.1 hr).2];simp
 ·rw[(List.mem_replicate.1 hn).2];unfold inW;omega
 ·rw[(List.mem_replicate.1 hr).2]at hn
  rw[(List.mem_replicate.1 hn).2];unfold inW;omega
theorem zgb {α:Type}{l:List α}{i:Nat}{x y:α}(h:y∈l.set i x):y=x∨y∈l:=(List.mem_or_eq_of_mem_set h).symm
theorem at0M {α:Type}{l:List α}{i:Int}{x:α}(h:at0 l i=some x):x∈l:=by
 unfold at0 at h
 split at h
 ·cases h
 ·exact mog h
theorem zqi {α:Type}{l:List α}{i:Int}{x:α}(h:at0 l i=some x):0≤i∧i<l.length:=by
 unfold at0 at h
 split at h
 ·cases h
 ·have:=(gsi.1 h).1
  omega
theorem zn5 {α:Type}{l:List α}{i:Int}(h0:0≤i)(h1:i<l.length):at0 l i=some (l[i.toNat]'(by omega)):=by
 unfold at0
 rw[if_neg (by omega)]
 exact gge _
theorem zco {np nb:Nat}{p:Ps}(h:PsOK np nb p){who bond:Int}:zdo p who bond=true↔(0≤who∧who<np)∧0≤bond∧bond<nb:=by
 unfold zdo
 simp only[Bool.and_eq_true,decide_eq_true_eq]
 have h1:=h.nc
 have h2:=h.np
 constructor
 ·rintro⟨a,b,c,d⟩
  rw[zn5 a (by omega)]at d
  have:=h.row _ (List.getElem_mem (l:=p.pos) (n:=who.toNat) (by omega))
  simp only[Option.getD_some]at d
  omega
 ·rintro⟨⟨a,b⟩,c,d⟩
  refine⟨a,by omega,c,?_⟩
  rw[zn5 a (by omega)]
  have:=h.row _ (List.getElem_mem (l:=p.pos) (n:=who.toNat) (by omega))
  simp only[Option.getD_some]
  omega
theorem zh8 {l:List (List Int)}{who bond n:Int}{b:Nat}(h:∀r∈l,r.length=b∧∀n∈r,inW n)(hw:0≤who∧who<l.length)(hn:inW n):∀r∈setRow l who bond n,r.length=b∧∀n∈r,inW n:=by
 intro r hr
 unfold setRow at hr
 rcases zgb hr with rfl|hr
 ·have hx:=zn5 hw.1 hw.2
  obtain⟨h1,h2⟩:=h _ (at0M hx)
  rw[hx]
  refine⟨by simpa using h1,fun m hm=> ?_⟩
  rcases zgb hm with rfl|hm
  ·exact hn
  ·exact h2 m hm
 ·exact h r hr
theorem zh9 {p:Ps}{t:zaL}(h:putE p t=0):zdo p t.buyer t.bond=true∧zdo p t.seller t.bond=true∧t.buyer≠t.seller∧1≤t.price∧1≤t.qty∧inI (t.price*t.qty)=true∧inI (zcv p t.buyer t.bond+t.qty)=true∧inI (zcv p t.seller t.bond - t.qty)=true∧inI (zb1 p t.buyer - t.price*t.qty)=true∧inI (zb1 p t.seller+t.price*t.qty)=true:=by
 unfold putE at h
 split at h
 ·cases h
 ·rename_i h1
  split at h
  ·rename_i h2
   simp only[Bool.and_eq_true]at h2
   simp only[not_or,Bool.not_eq_false]at h1
   exact⟨h1.1,h1.2.1,h1.2.2.1,by omega,by omega,h2.1.1.1.1,h2.1.1.1.2,h2.1.1.2,h2.1.2,h2.2⟩
  ·cases h
theorem zgq {np nb:Nat}{p:Ps}(h:PsOK np nb p)(t:zaL):PsOK np nb (putP p t):=by
 unfold putP
 split
 ·rename_i h0
  obtain⟨b1,b2,_,_,_,_,a2,a3,a4,a5⟩:=zh9 h0
  have b1:=(zco h).1 b1
  have b2:=(zco h).1 b2
  have hn:=h.np
  have hrow:∀r∈setRow (setRow p.pos t.buyer t.bond (zcv p t.buyer t.bond+t.qty)) t.seller t.bond (zcv p t.seller t.bond - t.qty),r.length=nb∧∀n∈r,inW n:=by
   refine zh8 (zh8 (fun r hr=>⟨h.row r hr,h.wr r hr⟩) (by omega) (zeP a2)) ?_ (zeP a3)
   unfold setRow
   simp only[List.length_set]
   omega
  refine⟨by simp[h.nc],by unfold setRow;simp[h.np],fun r hr=>(hrow r hr).1,fun n hn=> ?_,fun r hr=>(hrow r hr).2⟩
  rcases zgb hn with rfl|hn
  ·exact zeP a5
  ·rcases zgb hn with rfl|hn
   ·exact zeP a4
   ·exact h.wc n hn
 ·exact h
theorem zkR {l:List zaL}{k:Nat}{t:zaL}(ht:l[k]? =some t)(p:Ps):zc2 (l.drop k) p=if putE p t=0 then zc2 (l.drop (k+1)) (putP p t)else none:=by
 obtain⟨hk,rfl⟩:=gsi.1 ht
 rw[List.drop_eq_getElem_cons hk]
 rfl
end Go.Proofs.YteocfhdocpeokaaGreat
namespace Go.Proofs.YteocfhdocpeokaaGreat
open Go Go.Sl
attribute [local irreducible] AW ES EP Ld RetQ
set_option maxRecDepth 100000
def psOf (cash:List Int)(rs:List PRow):Ps:=⟨cash,rs.map PRow.l⟩
theorem zha {cash:List Int}{rs:List PRow}(who bond:Int):zek cash rs who bond=zdo (psOf cash rs) who bond:=by
 unfold zek zdo psOf at0
 by_cases h:0≤who
 ·rw[if_neg (by omega)]
  simp only[List.getElem?_map]
  rcases rs[who.toNat]? with _|r<;>simp
 ·rw[decide_eq_false h];simp
theorem zpO {cash:List Int}{rs:List PRow}(who:Int):zkQ cash who=zb1 (psOf cash rs) who:=by
 unfold zkQ zb1 psOf at0
 dsimp only
 split<;>rfl
theorem zey {W:World}{h:List zao}{AR:Option Addr}{cR:Nat}{t:TypeId}{rs:List PRow}(hm:zao.own AR rs.length cR t 1 (rs.map PRow.hd)∈h):zaz W h AR rs.length 1 (rs.map PRow.hd):=zaz.own hm (by simp) (fun v hv=>by
 obtain⟨y,_,rfl⟩:=lmm.1 hv
 rfl)
theorem zkS {rs:List PRow}{i:Nat}{a:PRow}(h:rs[i]? =some a):(rs.map PRow.hd)[i*1]? =some (.slice a.A a.l.length a.c):=by simp[h];rfl
theorem zrE {rs:List PRow}{a:PRow}(h:a∈rs){F:List zao}:zao.own a.A a.l.length a.c 2 1 (a.l.map (Value.int .i64))∈rs.map PRow.ck++F:=List.mem_append_left _ (lmm.2 ⟨a,h,rfl⟩)
structure zs3 (rs:List PRow)(nb:Nat)(i:Int)(a:PRow):Prop where
 at_:rs[i.toNat]? =some a
 len:a.l.length=nb
 wr:∀n∈a.l,inW n
theorem zn6 {np nb:Nat}{cash:List Int}{rs:List PRow}(h:PsOK np nb (psOf cash rs)){i:Int}(h0:0≤i)(h1:i<np):∃a,zs3 rs nb i a:=by
 have hl:rs.length=np:=by have:=h.np;simpa [psOf]using this
 have ha:rs[i.toNat]? =some (rs[i.toNat]'(by omega)):=gge (by omega)
 have hm:(rs[i.toNat]'(by omega)).l∈(psOf cash rs).pos:=lmm.2 ⟨_,List.getElem_mem (by omega),rfl⟩
 exact⟨_,ha,h.row _ hm,h.wr _ hm⟩
theorem zfx {cash:List Int}{rs:List PRow}{i bond:Int}{a:PRow}(h0:0≤i)(ha:rs[i.toNat]? =some a)(hb:0≤bond){n:Int}(hn:a.l[bond.toNat]? =some n):zcv (psOf cash rs) i bond=n:=by
 unfold zcv psOf at0
 rw[if_neg (by omega)]
 simp only[List.getElem?_map,ha,Option.map_some,Option.bind_some]
 rw[if_neg (by omega),hn];rfl
theorem zfy {cash:List Int}{rs:List PRow}{i n:Int}(h0:0≤i)(hn:cash[i.toNat]? =some n):zb1 (psOf cash rs) i=n:=by
 unfold zb1 psOf at0
 rw[if_neg (by omega)]
 dsimp only
 rw[hn];rfl
theorem zjR (W:World)(p:Nat)(AC:Option Addr)(cC:Nat)(AR:Option Addr)(cR:Nat)(cash:List Int)(rs:List PRow)(np nb:Nat)(hP:PsOK np nb (psOf cash rs))(who bond:Int):
 zaw Tryz.prog W 35 [.pointer (some ⟨p,0,none⟩),.int .i64 who,.int .i64 bond] (zbo p AC cC AR cR cash rs []) (.int .i64 (zcv (psOf cash rs) who bond)):=by
 refine zaw.ofD (fun h' hs=> ?_)
 have m0:=hs _ mem0
 have m1:=hs _ mem2
 have hck:=fun(a:PRow) (ha:a∈rs)=>hs _ (mcm _ (mcm _ (mcm _ (zrE ha))))
 have hlc:rs.length=cash.length:=by have a1:=hP.nc;have a2:=hP.np;simp[psOf]at a1 a2;omega
 have hI:=(zlD W p AC cC AR cR cash rs hlc who bond).mono (h':=h') (zgp m0 m1)
 rw[zha]at hI
 have hrd:=zey (W:=W) m1
 refine zaf Tryz.func35 rfl rfl Tryz.results35 Tryz.ntmps35 rfl rfl ?_
 refine zaI hrd rfl (fun hA=> ?_)
 cases hv:zdo (psOf cash rs) who bond
 ·rw[hv]at hI
  have hz:zcv (psOf cash rs) who bond=0:=by
   unfold zcv
   rcases hx:at0 (psOf cash rs).pos who with _|r
   ·rfl
   ·rw[Option.bind_some]
    rcases hy:at0 r bond with _|n
    ·rfl
    ·exfalso
     have h1:=zqi hx
     have h2:=zqi hy
     have h3:=hP.row _ (at0M hx)
     have h4:=hP.np
     have:zdo (psOf cash rs) who bond=true:=(zco hP).2 ⟨by omega,by omega⟩
     rw[hv]at this;cases this
  rw[hz]
  repeat' (first|apply zah|apply zaa|apply zak|apply zag|apply zac hT;iterate 4 exact rfl|(apply zab (hs:=(hI.mono kX));iterate 7 exact rfl)|apply zas;iterate 2 exact rfl)
  all_goals first
   |(exfalso;omega)
   |(apply ret1;exact rfl;exact⟨rfl,dX⟩)
   |skip
 ·obtain⟨⟨w1,w2⟩,b1,b2⟩:=(zco hP).1 hv
  rw[hv]at hI
  obtain⟨a,ha⟩:=zn6 hP w1 w2
  have hal:=ha.len
  obtain⟨n,hn⟩:∃n,a.l[bond.toNat]? =some n:=⟨a.l[bond.toNat]'(by omega),gge (by omega)⟩
  rw[zfx w1 ha.at_ b1 hn]
  have hnp:=hP.np
  simp only[psOf,llm]at hnp
  have hA':=hA (by omega)
  have hrda:zaz W h' a.A a.l.length 1 (a.l.map (Value.int .i64)):=zaz.ints (hck a (mog ha.at_)) rfl
  refine zaI hrda rfl (fun hB=> ?_)
  have hB':=hB (by omega)
  have hix:=zkS ha.at_
  have hiy:=zeG (kd:=.i64) hn
  repeat' (first|apply zah|apply zaa|apply zak|apply zam|apply zag|apply zac hT;iterate 4 exact rfl|(apply zab (hs:=(hI.mono kX));iterate 7 exact rfl)|(apply zaJ hT;(iterate 8 exact rfl);(iterate 2 omega);first|exact hA'|exact hB')|(apply zad;(iterate 5 exact rfl);first|exact zbe hT rfl rfl hrd rfl hix|exact zbe hT rfl rfl hrda rfl hiy)|(apply zad;(iterate 5 exact rfl);first|(apply zaq hT;exact rfl;exact rfl;(repeat(first|exact m0));exact rfl;exact rfl))|apply zan;iterate 2 exact rfl)
  all_goals first
   |(exfalso;omega)
   |(apply ret1;exact rfl;exact⟨rfl,dX⟩)
   |skip
theorem zmn (W:World)(F:List zao)(p:Nat)(AC:Option Addr)(cC:Nat)(AR:Option Addr)(cR:Nat)(cash:List Int)(rs:List PRow)(np nb:Nat)(hP:PsOK np nb (psOf cash rs))(t:zaL)
 (hbad:zdo (psOf cash rs) t.buyer t.bond=false∨zdo (psOf cash rs) t.seller t.bond=false∨t.buyer=t.seller∨t.price<1∨t.qty<1):
 zax Tryz.prog W 8 [.pointer (some ⟨p,0,none⟩),.agg t.enc.toArray] (zbo p AC cC AR cR cash rs F) (fun v h'=>v=.int .i64 1∧h'=zbo p AC cC AR cR cash rs F):=by
 refine zax.dropTo ?_
 have hnc:=hP.nc
 have hnp:=hP.np
 simp only[psOf,llm]at hnc hnp
 have hlc:rs.length=cash.length:=by omega
 have hI:=fun who bond h' m0 m1=>(zlD W p AC cC AR cR cash rs hlc who bond).mono (h':=h') (zgp m0 m1)
 simp only[zha]at hI
 unfold zbo
 have h1:=hI t.buyer t.bond
 have h2:=hI t.seller t.bond
 generalize zdo (psOf cash rs) t.buyer t.bond=b1 at*
 generalize zdo (psOf cash rs) t.seller t.bond=b2 at*
 generalize rs.map PRow.ck++F=G
 refine zaf Tryz.func8 rfl rfl Tryz.results8 Tryz.ntmps8 rfl rfl ?_
 repeat' (first|apply zah|apply zaa|apply zak|apply zam|apply zag|apply zac hT;iterate 4 exact rfl|apply zaK;iterate 3 exact rfl|apply zaA;(iterate 5 exact rfl);intro g3|(apply zab (hs:=(h1 _ mX mX));iterate 7 exact rfl)|(apply zab (hs:=(h2 _ mX mX));iterate 7 exact rfl)|(apply zad;(iterate 5 exact rfl);first|(apply zaq hT;exact rfl;exact rfl;exact mX;exact rfl;exact rfl))|apply zas;iterate 2 exact rfl|(apply zaH;exact rfl;all_goals(intro hb;(fail_if_success (change true=true at hb));(fail_if_success (change false=false at hb));(try dsimp only at hb);(try simp only[hb]);(first|replace hb:=odt hb|replace hb:=odf hb|skip);(try omega)))|(apply zal;exact rfl;all_goals(intro hb;(try dsimp only at hb);(try simp only[hb]);(first|replace hb:=odt hb|replace hb:=odf hb);(try omega))))
 all_goals first
  |(exfalso;omega)
  |(exfalso;simp_all;done)
  |(apply ret1;exact rfl;exact⟨_,by(show za7 _ (_::_::_::G));exact dX,rfl,rfl⟩)
  |skip
theorem zjS (x:Int):∃y f,okI x=.tuple #[.int .i64 y,.bool f]∧inW y∧inI x=f∧(f=true→y=x):=by
 refine⟨if inI x then x else 0,inI x,rfl,?_,rfl,fun h=>by rw[if_pos h]⟩
 split
 ·rename_i h;exact zeP h
 ·unfold inW;omega
theorem zhb {l:List Int}{i:Nat}{n:Int}{k:IntKind}(h:i<l.length):lay (l.map (Value.int k)) (i*1) (Value.cells (.int k n)).toList=(l.set i n).map (Value.int k):=by
 show lay _ _ [.int k n]=_
 rw[zpG (by simpa using h),List.map_set]
theorem zjT {l:List (List Int)}{who bond n:Int}{r:List Int}(h:at0 l who=some r):setRow l who bond n=l.set who.toNat (r.set bond.toNat n):=by
 unfold setRow
 rw[h];rfl
theorem zn7 (W:World)(F:List zao)(p:Nat)(AC:Option Addr)(cC:Nat)(AR:Option Addr)(cR:Nat)(cash:List Int)(rs:List PRow)(np nb:Nat)(hP:PsOK np nb (psOf cash rs))(t:zaL)(hpr:inW t.price)(hqt:inW t.qty)
 (hbad:¬(zdo (psOf cash rs) t.buyer t.bond=false∨zdo (psOf cash rs) t.seller t.bond=false∨t.buyer=t.seller∨t.price<1∨t.qty<1)):
 zax Tryz.prog W 8 [.pointer (some ⟨p,0,none⟩),.agg t.enc.toArray] (zbo p AC cC AR cR cash rs F) (fun v h'=>v=.int .i64 (putE (psOf cash rs) t)∧∃cash' rs',psOf cash' rs'=putP (psOf cash rs) t∧h'=zbo p AC cC AR cR cash' rs' F):=by
 refine zax.dropTo ?_
 have hnc:=hP.nc
 have hnp:=hP.np
 simp only[psOf,llm]at hnc hnp
 have hlc:rs.length=cash.length:=by omega
 have hI:=fun who bond h' m0 m1=>(zlD W p AC cC AR cR cash rs hlc who bond).mono (h':=h') (zgp m0 m1)
 simp only[zha]at hI
 have h1:=hI t.buyer t.bond
 have h2:=hI t.seller t.bond
 have hbad':=hbad
 simp only[not_or,Bool.not_eq_false]at hbad'
 obtain⟨hb1,hb2,hne,hp1,hq1⟩:=hbad'
 rw[hb1]at h1
 rw[hb2]at h2
 obtain⟨⟨x1,x2⟩,x3,x4⟩:=(zco hP).1 hb1
 obtain⟨⟨y1,y2⟩,_,_⟩:=(zco hP).1 hb2
 obtain⟨a,ha⟩:=zn6 hP x1 x2
 obtain⟨b,hb⟩:=zn6 hP y1 y2
 have hal:=ha.len
 have hbl:=hb.len
 obtain⟨nB,hnB⟩:∃n,a.l[t.bond.toNat]? =some n:=⟨a.l[t.bond.toNat]'(by omega),gge (by omega)⟩
 obtain⟨nS,hnS⟩:∃n,b.l[t.bond.toNat]? =some n:=⟨b.l[t.bond.toNat]'(by omega),gge (by omega)⟩
 obtain⟨cB,hcB⟩:∃n,cash[t.buyer.toNat]? =some n:=⟨cash[t.buyer.toNat]'(by omega),gge (by omega)⟩
 obtain⟨cS,hcS⟩:∃n,cash[t.seller.toNat]? =some n:=⟨cash[t.seller.toNat]'(by omega),gge (by omega)⟩
 have wnB:=ha.wr _ (mog hnB)
 have wnS:=hb.wr _ (mog hnS)
 have wcB:=hP.wc _ (mog hcB)
 have wcS:=hP.wc _ (mog hcS)
 obtain⟨X,hX⟩:=Int.eq_ofNat_of_zero_le (show 0≤t.price by omega)
 obtain⟨Q,hQ⟩:=Int.eq_ofNat_of_zero_le (show 0≤t.qty by omega)
 unfold inW at hpr hqt
 have hTm:=zgP W X Q (by omega) (by omega)
 rw[←hX,←hQ]at hTm
 have hXQ:X*Q<340282366920938463463374607431768211456:=by
  have:X*Q≤9223372036854775807*9223372036854775807:=Nat.mul_le_mul (by omega) (by omega)
  omega
 have hNr:=zh7 W (X*Q) hXQ
 have hcost:t.price*t.qty=((X*Q:Nat):Int):=by rw[hX,hQ];simp
 obtain⟨v1,f1,e1,w1,g1,k1⟩:=zjS ((X*Q:Nat):Int)
 rw[e1]at hNr
 have hA2:=ziX W nB t.qty wnB (by unfold inW;omega)
 obtain⟨v2,f2,e2,w2,g2,k2⟩:=zjS (nB+t.qty)
 rw[e2]at hA2
 have hA3:=zlC W nS t.qty wnS (by unfold inW;omega)
 obtain⟨v3,f3,e3,w3,g3',k3⟩:=zjS (nS - t.qty)
 rw[e3]at hA3
 have hA4:=zlC W cB v1 wcB w1
 obtain⟨v4,f4,e4,w4,g4',k4⟩:=zjS (cB - v1)
 rw[e4]at hA4
 have hA5:=ziX W cS v1 wcS w1
 obtain⟨v5,f5,e5,w5,g5',k5⟩:=zjS (cS+v1)
 rw[e5]at hA5
 have hE:putE (psOf cash rs) t=if f1&&f2&&f3&&f4&&f5 then 0 else 15:=by
  unfold putE
  rw[if_neg hbad,zfx x1 ha.at_ x3 hnB,zfx y1 hb.at_ x3 hnS,zfy x1 hcB,zfy y1 hcS,hcost,g1,g2,g3']
  cases f1
  ·simp
  ·rw[←k1 rfl,g4',g5']
 have hEok:(f1&&f2&&f3&&f4&&f5)=true→(putP (psOf cash rs) t)=⟨(cash.set t.buyer.toNat v4).set t.seller.toNat v5,setRow (setRow (rs.map PRow.l) t.buyer t.bond v2) t.seller t.bond v3⟩:=fun hf=>by
  rw[hf,if_pos rfl]at hE
  simp only[Bool.and_eq_true]at hf
  obtain⟨⟨⟨⟨z1,z2⟩,z3⟩,z4⟩,z5⟩:=hf
  unfold putP
  rw[if_pos hE,zfx x1 ha.at_ x3 hnB,zfx y1 hb.at_ x3 hnS,zfy x1 hcB,zfy y1 hcS,hcost,k2 z2,k3 z3,k4 z4,k5 z5,k1 z1]
  rfl
 rw[hE]
 obtain⟨R,hR⟩:=zjk (l:=rs) (i:=t.buyer.toNat) (j:=t.seller.toNat) (by omega) (by omega) (by omega)
 have hR0:=hR a b
 rw[zcC ha.at_,zcC hb.at_]at hR0
 have hpull:(zbo p AC cC AR cR cash rs F).Perm (.blk p 69 [.slice AR rs.length cR,.slice AC cash.length cC]::.own AC cash.length cC 2 1 (cash.map (Value.int .i64))::.own AR rs.length cR 66 1 (rs.map PRow.hd)
  ::.own a.A a.l.length a.c 2 1 (a.l.map (Value.int .i64))::.own b.A b.l.length b.c 2 1 (b.l.map (Value.int .i64))::(R.map PRow.ck++F)):=by
  unfold zbo
  refine((List.Perm.append_right F (hR0.map PRow.ck)).cons _ |>.cons _ |>.cons _)
 have hixa:=zkS ha.at_
 have hixb:=zkS hb.at_
 have hiB:=zeG (kd:=.i64) hnB
 have hiS:=zeG (kd:=.i64) hnS
 have hjB:=zeG (kd:=.i64) hcB
 have hjS:=zeG (kd:=.i64) hcS
 generalize hG:R.map PRow.ck++F=G at hpull
 have hEno:(f1&&f2&&f3&&f4&&f5)=false→putP (psOf cash rs) t=psOf cash rs:=fun hf=>by
  rw[hf]at hE
  unfold putP
  rw[if_neg (by rw[hE];decide)]
 have hdrop:∀k,za7 k (.blk p 69 [.slice AR rs.length cR,.slice AC cash.length cC]::.own AC cash.length cC 2 1 (cash.map (Value.int .i64))::.own AR rs.length cR 66 1 (rs.map PRow.hd)
  ::.own a.A a.l.length a.c 2 1 (a.l.map (Value.int .i64))::.own b.A b.l.length b.c 2 1 (b.l.map (Value.int .i64))::G)→za7 k (zbo p AC cC AR cR cash rs F):=fun k hk=>zcA hk (zfS hpull.symm)
 have hfin:∀k,za7 k (.blk p 69 [.slice AR rs.length cR,.slice AC cash.length cC]::.own AC cash.length cC 2 1 (lay (lay (cash.map (Value.int .i64)) (t.buyer.toNat*1) (Value.cells (.int .i64 v4)).toList) (t.seller.toNat*1) (Value.cells (.int .i64 v5)).toList)::.own AR rs.length cR 66 1 (rs.map PRow.hd)
  ::.own a.A a.l.length a.c 2 1 (lay (a.l.map (Value.int .i64)) (t.bond.toNat*1) (Value.cells (.int .i64 v2)).toList)::.own b.A b.l.length b.c 2 1 (lay (b.l.map (Value.int .i64)) (t.bond.toNat*1) (Value.cells (.int .i64 v3)).toList)::G)
  →za7 k (zbo p AC cC AR cR ((cash.set t.buyer.toNat v4).set t.seller.toNat v5) ((rs.set t.buyer.toNat ⟨a.A,a.c,a.l.set t.bond.toNat v2⟩).set t.seller.toNat ⟨b.A,b.c,b.l.set t.bond.toNat v3⟩) F):=fun k hk=>by
  refine zcA hk (zfS ?_)
  rw[zhb (by omega),zhb (by simp only[List.length_set];omega),zhb (by omega),zhb (by omega)]
  unfold zbo
  have e4:((rs.set t.buyer.toNat ⟨a.A,a.c,a.l.set t.bond.toNat v2⟩).set t.seller.toNat ⟨b.A,b.c,b.l.set t.bond.toNat v3⟩).map PRow.hd=rs.map PRow.hd:=by
   rw[List.map_set,List.map_set]
   have f1:PRow.hd ⟨a.A,a.c,a.l.set t.bond.toNat v2⟩=PRow.hd a:=by unfold PRow.hd;simp only[List.length_set]
   have f2:PRow.hd ⟨b.A,b.c,b.l.set t.bond.toNat v3⟩=PRow.hd b:=by unfold PRow.hd;simp only[List.length_set]
   rw[f1,f2,zcC (l:=rs.map PRow.hd) (i:=t.buyer.toNat) (a:=PRow.hd a) (by rw[List.getElem?_map,ha.at_];rfl),zcC (l:=rs.map PRow.hd) (i:=t.seller.toNat) (a:=PRow.hd b) (by rw[List.getElem?_map,hb.at_];rfl)]
  rw[e4]
  simp only[List.length_set]
  refine List.Perm.cons _ (List.Perm.cons _ (List.Perm.cons _ ?_))
  have e5:=((hR ⟨a.A,a.c,a.l.set t.bond.toNat v2⟩ ⟨b.A,b.c,b.l.set t.bond.toNat v3⟩).map PRow.ck).append_right F
  have f3:PRow.ck ⟨a.A,a.c,a.l.set t.bond.toNat v2⟩=.own a.A a.l.length a.c 2 1 ((a.l.set t.bond.toNat v2).map (Value.int .i64)):=by unfold PRow.ck;simp only[List.length_set]
  have f4:PRow.ck ⟨b.A,b.c,b.l.set t.bond.toNat v3⟩=.own b.A b.l.length b.c 2 1 ((b.l.set t.bond.toNat v3).map (Value.int .i64)):=by unfold PRow.ck;simp only[List.length_set]
  rw[List.map_cons,List.map_cons,f3,f4]at e5
  rw[←hG]
  exact e5.symm
 have hpsok:(f1&&f2&&f3&&f4&&f5)=true→psOf ((cash.set t.buyer.toNat v4).set t.seller.toNat v5) ((rs.set t.buyer.toNat ⟨a.A,a.c,a.l.set t.bond.toNat v2⟩).set t.seller.toNat ⟨b.A,b.c,b.l.set t.bond.toNat v3⟩)=putP (psOf cash rs) t:=fun hf=>by
  rw[hEok hf]
  unfold psOf
  congr 1
  rw[List.map_set,List.map_set]
  have q1:at0 (rs.map PRow.l) t.buyer=some a.l:=by unfold at0;rw[if_neg (by omega),List.getElem?_map,ha.at_];rfl
  rw[zjT q1]
  have q2:at0 ((rs.map PRow.l).set t.buyer.toNat (a.l.set t.bond.toNat v2)) t.seller=some b.l:=by
   unfold at0
   rw[if_neg (by omega),List.getElem?_set_ne (by omega),List.getElem?_map,hb.at_];rfl
  rw[zjT q2]
 generalize putP (psOf cash rs) t=PP at*
 refine zaf Tryz.func8 rfl rfl Tryz.results8 Tryz.ntmps8 rfl rfl ?_
 refine zqt hpull ?_
 refine zaI (zey (W:=W) mem2) rfl (fun hAR=> ?_)
 have hAR':=hAR (by omega)
 refine zaI (zaz.ints (W:=W) mem1 rfl) rfl (fun hAC=> ?_)
 have hAC':=hAC (by omega)
 refine zaI (zaz.ints (W:=W) mem3 rfl) rfl (fun hAa=> ?_)
 have hAa':=hAa (by omega)
 refine zaI (zaz.ints (W:=W) mem4 rfl) rfl (fun hAb=> ?_)
 have hAb':=hAb (by omega)
 repeat' (first|apply zah|apply zaa|apply zak|apply zam|apply zag|apply zac hT;iterate 4 exact rfl|apply zaK;iterate 3 exact rfl|apply zaC [27,28] [] hmix;decide+kernel|(apply zbZ [] [] (.step 0 <| .step 1 <| .step 2 <| .step 3 <| .step 4 <| .step 5 <| .step 6 <| .step 7 <| .step 8 <| .step 9 <| .step 10 <| .step 11 <| .step 12 <| .step 13 <| .step 14 <| .step 15 <| .step 16 <| .step 17 <| .step 18 <| .step 20 <| .step 21 <| .step 22 <| .alt (.step 19 <| .step 23 <| .step 24 <| .step 25 <| .nil) ((.step 23 <| .step 19 <| .step 24 <| .step 25 <| .nil))) hmix;decide+kernel)|apply zcJ|apply zf7|apply zb7;exact rfl|(apply zbZ [] [] (.step 0 <| .step 1 <| .step 2 <| .step 3 <| .step 4 <| .step 5 <| .step 6 <| .step 7 <| .step 8 <| .step 9 <| .step 10 <| .step 12 <| .step 13 <| .step 14 <| .alt (.step 11 <| .step 15 <| .step 16 <| .step 17 <| .nil) ((.step 15 <| .step 11 <| .step 16 <| .step 17 <| .nil))) hmix;decide+kernel)|apply zaA;(iterate 5 exact rfl);intro g3|(apply zab (hs:=(h1 _ mX mX));iterate 7 exact rfl)|(apply zab (hs:=(h2 _ mX mX));iterate 7 exact rfl)|(apply zab (hs:=(hTm.mono (by simp)));iterate 7 exact rfl)|(apply zab (hs:=(hNr.mono (by simp)));iterate 7 exact rfl)|(apply zab (hs:=(hA2.mono (by simp)));iterate 7 exact rfl)|(apply zab (hs:=(hA3.mono (by simp)));iterate 7 exact rfl)|(apply zab (hs:=(hA4.mono (by simp)));iterate 7 exact rfl)|(apply zab (hs:=(hA5.mono (by simp)));iterate 7 exact rfl)|(apply zar hT;(iterate 6 exact rfl);exact sX;(iterate 3 exact rfl);exact nle rfl)|(apply zaJ hT;(iterate 8 exact rfl);(iterate 2 omega);first|exact hAR'|exact hAC'|exact hAa'|exact hAb')|(apply zad;(iterate 5 exact rfl);first|exact zbe hT rfl rfl (zey mX) rfl hixa|exact zbe hT rfl rfl (zey mX) rfl hixb|exact zbe hT rfl rfl (zaz.ints mX rfl) rfl hiB|exact zbe hT rfl rfl (zaz.ints mX rfl) rfl hiS|exact zbe hT rfl rfl (zaz.ints mX rfl) rfl hjB|exact zbe hT rfl rfl (zaz.ints mX rfl) rfl hjS)|(apply zbn (A:=a.A) hT;(iterate 6 exact rfl);exact sX;exact rfl;exact rfl;exact rfl;(show t.bond.toNat*1+1≤a.l.length*1;omega);omega)|(apply zbn (A:=b.A) hT;(iterate 6 exact rfl);exact sX;exact rfl;exact rfl;exact rfl;(show t.bond.toNat*1+1≤b.l.length*1;omega);omega)|(apply zbn (A:=AC) hT;(iterate 6 exact rfl);exact sX;exact rfl;exact rfl;exact rfl;(show t.buyer.toNat*1+1≤cash.length*1;omega);omega)|(apply zbn (A:=AC) hT;(iterate 6 exact rfl);exact sX;exact rfl;exact rfl;exact rfl;(show t.seller.toNat*1+1≤cash.length*1;omega);omega)|(apply zad;(iterate 5 exact rfl);first|(apply zaq hT;exact rfl;exact rfl;exact mX;exact rfl;exact rfl)|(apply zaF hT;exact rfl;exact rfl;exact mX;exact rfl))|apply zay hT;(iterate 5 exact rfl);intro _|apply zas;iterate 2 exact rfl|(apply zaH;exact rfl;all_goals(intro hb;(fail_if_success (change true=true at hb));(fail_if_success (change false=false at hb));(try dsimp only at hb);(try simp only[hb]);(first|replace hb:=odt hb|replace hb:=odf hb|skip);(try omega)))|(apply zal;exact rfl;all_goals(intro hb;(try dsimp only at hb);(try simp only[hb]);(first|replace hb:=odt hb|replace hb:=odf hb|skip);(try omega))))
 all_goals first
  |(exfalso;omega)
  |((have flag0:(f1&&f2&&f3&&f4&&f5)=false:=by(clear hdrop hfin hpsok hEok hEno hE hI h1 h2 hpull;simp only[Bool.not_eq_true',Bool.not_eq_false']at *;simp[*]));apply ret1;exact rfl;exact⟨_,hdrop _ dX,by rw[flag0];rfl,cash,rs,(hEno flag0).symm,rfl⟩)
  |((have flag1:(f1&&f2&&f3&&f4&&f5)=true:=by(clear hdrop hfin hpsok hEok hEno hE hI h1 h2 hpull;simp only[Bool.not_eq_true',Bool.not_eq_false']at *;simp[*]));apply ret1;exact rfl;exact⟨_,hfin _ dX,by rw[flag1];rfl,_,_,hpsok flag1,rfl⟩)
  |skip
theorem zia (W:World)(b:zaP)(p:Int)(hb:zcU b=true):zaw Tryz.prog W 144 [.agg b.enc.toArray,.int .i64 p] [] (.int .i64 (zei b p)):=by
 obtain⟨h1,h2,h3,h4,h5,h6⟩:=zet hb
 refine zaw.ofD (fun h' hs=> ?_)
 have hin:=zkp W p b.low b.high
 unfold zei
 cases hI:inB p b.low b.high
 ·rw[hI]at hin
  refine zaf Tryz.func144 rfl rfl Tryz.results144 Tryz.ntmps144 rfl rfl ?_
  repeat' (first|apply zah|apply zaa|apply zak|apply zaj|apply zag|apply zac hT;iterate 4 exact rfl|(apply zab (hs:=(hin.mono (by simp)));iterate 7 exact rfl)|(apply zad;(iterate 5 exact rfl);first|(apply zaq hT;exact rfl;exact rfl;exact mX;exact rfl;exact rfl))|apply zaA;(iterate 5 exact rfl);intro _|apply zas;iterate 2 exact rfl)
  all_goals first
   |(exfalso;omega)
   |(apply ret1;exact rfl;exact⟨by simp,dX⟩)
   |skip
 ·have hr:=zck hI
  rw[hI]at hin
  refine zaf Tryz.func144 rfl rfl Tryz.results144 Tryz.ntmps144 rfl rfl ?_
  repeat' (first|apply zah|apply zaa|apply zak|apply zam|apply zaj|apply zag|apply zac hT;iterate 4 exact rfl|(apply zab (hs:=(hin.mono (by simp)));iterate 7 exact rfl)|apply zmY;(iterate 5 exact rfl);omega;omega|(apply zad;(iterate 5 exact rfl);first|(apply zaq hT;exact rfl;exact rfl;exact mX;exact rfl;exact rfl))|apply zaA;(iterate 5 exact rfl);intro _|apply zan;iterate 2 exact rfl|(apply zal;exact rfl;all_goals(intro hb;(try dsimp only at hb);(try simp only[hb]);(first|replace hb:=zbc hb|replace hb:=zbd hb);(try omega))))
  all_goals first
   |(exfalso;omega)
   |(apply ret1;exact rfl;exact⟨by simp[*],dX⟩)
   |skip
theorem ziY (W:World)(b:zaP)(p:Int)(hb:zcU b=true):zaw Tryz.prog W 156 [.agg b.enc.toArray,.int .i64 p] [] (.int .i64 (qtyE b p)):=by
 obtain⟨h1,h2,h3,h4,h5,h6⟩:=zet hb
 refine zaw.ofD (fun h' hs=> ?_)
 have hin:=zkp W p b.min b.max
 unfold qtyE
 cases hI:inB p b.min b.max
 ·rw[hI]at hin
  refine zaf Tryz.func156 rfl rfl Tryz.results156 Tryz.ntmps156 rfl rfl ?_
  repeat' (first|apply zah|apply zaa|apply zak|apply zaj|apply zag|apply zac hT;iterate 4 exact rfl|(apply zab (hs:=(hin.mono (by simp)));iterate 7 exact rfl)|(apply zad;(iterate 5 exact rfl);first|(apply zaq hT;exact rfl;exact rfl;exact mX;exact rfl;exact rfl))|apply zaA;(iterate 5 exact rfl);intro _|apply zas;iterate 2 exact rfl)
  all_goals first
   |(exfalso;omega)
   |(apply ret1;exact rfl;exact⟨by simp,dX⟩)
   |skip
 ·have hr:=zck hI
  rw[hI]at hin
  refine zaf Tryz.func156 rfl rfl Tryz.results156 Tryz.ntmps156 rfl rfl ?_
  repeat' (first|apply zah|apply zaa|apply zak|apply zam|apply zaj|apply zag|apply zac hT;iterate 4 exact rfl|(apply zab (hs:=(hin.mono (by simp)));iterate 7 exact rfl)|apply zmY;(iterate 5 exact rfl);omega;omega|(apply zad;(iterate 5 exact rfl);first|(apply zaq hT;exact rfl;exact rfl;exact mX;exact rfl;exact rfl))|apply zaA;(iterate 5 exact rfl);intro _|apply zan;iterate 2 exact rfl|(apply zal;exact rfl;all_goals(intro hb;(try dsimp only at hb);(try simp only[hb]);(first|replace hb:=zbc hb|replace hb:=zbd hb);(try omega))))
  all_goals first
   |(exfalso;omega)
   |(apply ret1;exact rfl;exact⟨by simp[*],dX⟩)
   |skip
theorem zib (W:World)(b:zaP)(p q:Int)(hb:zcU b=true):zaw Tryz.prog W 176 [.agg b.enc.toArray,.int .i64 p,.int .i64 q] [] (.int .i64 (zdj b p q)):=by
 refine zaw.ofD (fun h' hs=> ?_)
 have h1:=zia W b p hb
 have h2:=ziY W b q hb
 unfold zdj
 generalize zei b p=pe at*
 generalize qtyE b q=qe at*
 refine zaf Tryz.func176 rfl rfl Tryz.results176 Tryz.ntmps176 rfl rfl ?_
 repeat' (first|apply zah|apply zaa|apply zak|apply zam|apply zag|apply zac hT;iterate 4 exact rfl|(apply zab (hs:=(h1.mono (by simp)));iterate 7 exact rfl)|(apply zab (hs:=(h2.mono (by simp)));iterate 7 exact rfl)|(apply zad;(iterate 5 exact rfl);first|(apply zaq hT;exact rfl;exact rfl;exact mX;exact rfl;exact rfl)|(apply zaF hT;exact rfl;exact rfl;exact mX;exact rfl))|apply zaA;(iterate 5 exact rfl);intro _|(apply zal;exact rfl;all_goals(intro hb;(try dsimp only at hb);(try simp only[hb]);(first|replace hb:=zbc hb|replace hb:=zbd hb|skip);(try omega))))
 all_goals first
  |(exfalso;omega)
  |(apply ret1;exact rfl;exact⟨by simp[*],dX⟩)
  |skip
theorem zhc (W:World)(p:Nat)(A:Option Addr)(c:Nat)(sl:Value)(ps:List zaG)(who:Int):
 zaw Tryz.prog W 137 [.pointer (some ⟨p,0,none⟩),.int .i64 who] [.blk p 139 [.slice A ps.length c,sl],.own A ps.length c 97 3 (ps.flatMap zaG.enc)] (.int .i64 (zcs ps who)):=by
 refine zaw.ofD (fun h' hs=> ?_)
 have m0:=hs _ mem0
 have m1:=hs _ mem1
 have hrd:zaz W h' A ps.length 3 (ps.flatMap zaG.enc):=zaz.enc zaG.enc_len zaG.enc_one m1 rfl
 refine zaf Tryz.func137 rfl rfl Tryz.results137 Tryz.ntmps137 rfl rfl ?_
 refine zaI hrd rfl (fun hA=> ?_)
 by_cases hw:0≤who∧who<ps.length
 ·obtain⟨q,hq⟩:∃q,ps[who.toNat]? =some q:=⟨ps[who.toNat]'(by omega),gge (by omega)⟩
  have hA':=hA (by omega)
  rw[zqD hw.1 hq]
  repeat' (first|apply zah|apply zaa|apply zak|apply zam|apply zag|apply zac hT;iterate 4 exact rfl|apply zaJ hT;(iterate 8 exact rfl);(iterate 2 omega);exact hA'|(apply zad;(iterate 5 exact rfl);exact zbx hT rfl rfl hrd zaG.enc_len (za4 _ _ _) hq (by decide) rfl)|(apply zad;(iterate 5 exact rfl);first|(apply zaq hT;exact rfl;exact rfl;(repeat(first|exact m0));exact rfl;exact rfl))|(apply zaH;exact rfl;all_goals(intro hb;(fail_if_success (change true=true at hb));(fail_if_success (change false=false at hb));(try dsimp only at hb);(try simp only[hb]);(first|replace hb:=odt hb|replace hb:=odf hb);(try omega)))|(apply zal;exact rfl;all_goals(intro hb;(try dsimp only at hb);(try simp only[hb]);(first|replace hb:=odt hb|replace hb:=odf hb);(try omega))))
  all_goals first
   |(exfalso;omega)
   |(apply ret1;exact rfl;exact⟨rfl,dX⟩)
   |skip
 ·rw[zo7 (by omega)]
  repeat' (first|apply zah|apply zaa|apply zak|apply zag|apply zac hT;iterate 4 exact rfl|apply zaK;iterate 3 exact rfl|(apply zad;(iterate 5 exact rfl);first|(apply zaq hT;exact rfl;exact rfl;(repeat(first|exact m0));exact rfl;exact rfl))|apply zas;iterate 2 exact rfl|(apply zaH;exact rfl;all_goals(intro hb;(fail_if_success (change true=true at hb));(fail_if_success (change false=false at hb));(try dsimp only at hb);(try simp only[hb]);(first|replace hb:=odt hb|replace hb:=odf hb);(try omega)))|(apply zal;exact rfl;all_goals(intro hb;(try dsimp only at hb);(try simp only[hb]);(first|replace hb:=odt hb|replace hb:=odf hb);(try omega))))
  all_goals first
   |(exfalso;omega)
   |(apply ret1;exact rfl;exact⟨rfl,dX⟩)
   |skip
def zlE (p:Nat)(A:Option Addr)(c:Nat)(U:Option Addr)(u:Nat)(ps:List zaG)(used:List Int):List zao:=
 [.blk p 139 [.slice A ps.length c,.slice U ps.length u],.own A ps.length c 97 3 (ps.flatMap zaG.enc),.own U ps.length u 2 1 (used.map (Value.int .i64))]
theorem zpP (W:World)(p:Nat)(A:Option Addr)(c:Nat)(sl:Value)(ps:List zaG)(who kind:Int):
 zaw Tryz.prog W 109 [.pointer (some ⟨p,0,none⟩),.int .i64 who,.int .i64 kind] [.blk p 139 [.slice A ps.length c,sl],.own A ps.length c 97 3 (ps.flatMap zaG.enc)] (.bool (mayV ps who kind)):=by
 refine zaw.ofD (fun h' hs=> ?_)
 have hR:=(zhc W p A c sl ps who).mono hs
 unfold mayV
 generalize zcs ps who=r at*
 refine zaf Tryz.func109 rfl rfl Tryz.results109 Tryz.ntmps109 rfl rfl ?_
 repeat' (first|apply zah|apply zaa|apply zak|apply zam|apply zaj|apply zag|apply zac hT;iterate 4 exact rfl|apply zaK;iterate 3 exact rfl|apply zab (hs:=hR);iterate 7 exact rfl|apply zas;iterate 2 exact rfl|(apply zaH;exact rfl;all_goals(intro hb;(fail_if_success (change true=true at hb));(fail_if_success (change false=false at hb));(try dsimp only at hb);(try simp only[hb]);(first|replace hb:=odt hb|replace hb:=odf hb);(try omega)))|(apply zal;exact rfl;all_goals(intro hb;(try dsimp only at hb);(try simp only[hb]);(first|replace hb:=odt hb|replace hb:=odf hb);(try omega))))
 all_goals first
  |(exfalso;omega)
  |(apply ret1;exact rfl;exact⟨by(first|simp_all;done),dX⟩)
  |skip
theorem zmo (W:World)(p:Nat)(A:Option Addr)(c:Nat)(sl:Value)(ps:List zaG)(who dealers:Int):
 zaw Tryz.prog W 157 [.pointer (some ⟨p,0,none⟩),.int .i64 who,.int .u64 dealers] [.blk p 139 [.slice A ps.length c,sl],.own A ps.length c 97 3 (ps.flatMap zaG.enc)] (.int .i64 (zf9 ps who dealers)):=by
 refine zaw.ofD (fun h' hs=> ?_)
 have m0:=hs _ mem0
 have m1:=hs _ mem1
 have hR:=(zhc W p A c sl ps who).mono hs
 have hrd:zaz W h' A ps.length 3 (ps.flatMap zaG.enc):=zaz.enc zaG.enc_len zaG.enc_one m1 rfl
 unfold zf9
 by_cases hr:zcs ps who=1
 ·obtain⟨w0,w1,q,hq,_⟩:=zcD (ps:=ps) (who:=who) (by rw[hr];decide)
  have hat:at0 ps who=some q:=by unfold at0;rw[if_neg (by omega),hq]
  rw[hr]at hR
  rw[hr,hat]
  dsimp only[Option.map_some,Option.getD_some]
  refine zaf Tryz.func157 rfl rfl Tryz.results157 Tryz.ntmps157 rfl rfl ?_
  refine zaI hrd rfl (fun hA=> ?_)
  have hA':=hA (by omega)
  repeat' (first|apply zah|apply zaa|apply zak|apply zam|apply zaj|apply zag|apply zac hT;iterate 4 exact rfl|apply zaK;iterate 3 exact rfl|apply zab (hs:=hR);iterate 7 exact rfl|apply zcr;iterate 6 exact rfl|apply zaJ hT;(iterate 8 exact rfl);(iterate 2 omega);exact hA'|(apply zad;(iterate 5 exact rfl);exact zbx hT rfl rfl hrd zaG.enc_len (za4 _ _ _) hq (by decide) rfl)|(apply zad;(iterate 5 exact rfl);first|(apply zaq hT;exact rfl;exact rfl;(repeat(first|exact m0));exact rfl;exact rfl))|apply zas;iterate 2 exact rfl|apply zan;iterate 2 exact rfl|(apply zaH;exact rfl;all_goals(intro hb;(fail_if_success (change true=true at hb));(fail_if_success (change false=false at hb));(try dsimp only at hb);(try simp only[hb]);(first|replace hb:=odt hb|replace hb:=odf hb);(try omega)))|(apply zal;exact rfl;all_goals(intro hb;(try dsimp only at hb);(try simp only[hb]);(first|replace hb:=zbc hb|replace hb:=zbd hb);(try omega))))
  all_goals first
   |(exfalso;omega)
   |(apply ret1;exact rfl;exact⟨by simp[*],dX⟩)
   |skip
 ·rw[if_pos hr]
  generalize zcs ps who=r at*
  refine zaf Tryz.func157 rfl rfl Tryz.results157 Tryz.ntmps157 rfl rfl ?_
  repeat' (first|apply zah|apply zaa|apply zak|apply zaj|apply zag|apply zac hT;iterate 4 exact rfl|apply zab (hs:=hR);iterate 7 exact rfl|apply zan;iterate 2 exact rfl|(apply zal;exact rfl;all_goals(intro hb;(try dsimp only at hb);(try simp only[hb]);(first|replace hb:=zbc hb|replace hb:=zbd hb);(try omega))))
  all_goals first
   |(exfalso;omega)
   |(apply ret1;exact rfl;exact⟨rfl,dX⟩)
   |skip
def zjU (ps:List zaG)(used:List Int)(who price qty:Int):Value:=
 .tuple #[.int .i64 (if zdb ps used who price qty=0 then zdY used who+price*qty else 0),.int .i64 (zdb ps used who price qty)]
theorem zjV (W:World)(p:Nat)(A:Option Addr)(c:Nat)(U:Option Addr)(u:Nat)(ps:List zaG)(used:List Int)(who price qty:Int)(hl:used.length=ps.length)(hu:∀x∈used,0≤x∧x≤9223372036854775807)(hp:inW price)(hq:inW qty):
 zaw Tryz.prog W 188 [.pointer (some ⟨p,0,none⟩),.int .i64 who,.int .i64 price,.int .i64 qty] (zlE p A c U u ps used) (zjU ps used who price qty):=by
 refine zaw.ofD (fun h' hs=> ?_)
 have m0:=hs _ mem0
 have m1:=hs _ mem1
 have m2:=hs _ mem2
 have hR:=(zhc W p A c (.slice U ps.length u) ps who).mono (h':=h') (zbp m0 m1)
 have hrd:zaz W h' A ps.length 3 (ps.flatMap zaG.enc):=zaz.enc zaG.enc_len zaG.enc_one m1 rfl
 have hru:zaz W h' U ps.length 1 (used.map (Value.int .i64)):=zaz.ints m2 hl
 unfold inW at hp hq
 by_cases hr:zcs ps who=2
 ·obtain⟨w0,w1,q,hq1,_⟩:=zcD (ps:=ps) (who:=who) (by rw[hr];decide)
  have hat:at0 ps who=some q:=by unfold at0;rw[if_neg (by omega),hq1]
  obtain⟨x,hx⟩:∃x,used[who.toNat]? =some x:=⟨used[who.toNat]'(by omega),gge (by omega)⟩
  have hxu:=hu x (mog hx)
  have hus:zdY used who=x:=by unfold zdY at0;rw[if_neg (by omega),hx];rfl
  rw[hr]at hR
  by_cases hpq:price<1∨qty<1
  ·have hE:zjU ps used who price qty=.tuple #[.int .i64 0,.int .i64 1]:=by
    have:zdb ps used who price qty=1:=by unfold zdb;rw[if_neg (by rw[hr];decide),if_pos hpq]
    unfold zjU;rw[this];rfl
   rw[hE]
   refine zaf Tryz.func188 rfl rfl Tryz.results188 Tryz.ntmps188 rfl rfl ?_
   repeat' (first|apply zah|apply zaa|apply zak|apply zaj|apply zag|apply zac hT;iterate 4 exact rfl|apply zaK;iterate 3 exact rfl|apply zab (hs:=hR);iterate 7 exact rfl|apply zas;iterate 2 exact rfl|apply zan;iterate 2 exact rfl|(apply zaH;exact rfl;all_goals(intro hb;(fail_if_success (change true=true at hb));(fail_if_success (change false=false at hb));(try dsimp only at hb);(try simp only[hb]);(first|replace hb:=odt hb|replace hb:=odf hb);(try omega)))|(apply zal;exact rfl;all_goals(intro hb;(try dsimp only at hb);(try simp only[hb]);(first|replace hb:=odt hb|replace hb:=odf hb);(try omega))))
   all_goals first
    |(exfalso;omega)
    |(apply ret2;exact rfl;exact rfl;exact⟨rfl,dX⟩)
    |skip
  ·obtain⟨X,hX⟩:=Int.eq_ofNat_of_zero_le (show 0≤price by omega)
   obtain⟨Q,hQ⟩:=Int.eq_ofNat_of_zero_le (show 0≤qty by omega)
   have hTm:=zgP W X Q (by omega) (by omega)
   have hXQ:X*Q<340282366920938463463374607431768211456:=by
    have:X*Q≤9223372036854775807*9223372036854775807:=Nat.mul_le_mul (by omega) (by omega)
    omega
   have hNr:=zh7 W (X*Q) hXQ
   have hcost:price*qty=((X*Q:Nat):Int):=by rw[hX,hQ];simp
   have hRE:zdb ps used who price qty=if ((X*Q:Nat):Int)>9223372036854775807 then 15 else if x+((X*Q:Nat):Int)>9223372036854775807 then 15 else if x+((X*Q:Nat):Int)>q.cap then 14 else 0:=by
    unfold zdb
    rw[if_neg (by rw[hr];decide),if_neg hpq,hcost,hus,hat];rfl
   unfold zjU
   rw[hus,hcost,hRE]
   rw[←hX,←hQ]at hTm
   generalize X*Q=k at*
   have hA2:=fun(hk:inW (k:Int))=>ziX W x k (by unfold inW;omega) hk
   unfold okI at hNr hA2
   by_cases h1:((k:Nat):Int)>9223372036854775807
   ·have e1:inI ((k:Nat):Int)=false:=by cases h:inI ((k:Nat):Int)with|false=>rfl|true=>exact absurd (zeP h).2 (by omega)
    rw[e1]at hNr
    rw[if_pos h1]
    refine zaf Tryz.func188 rfl rfl Tryz.results188 Tryz.ntmps188 rfl rfl ?_
    repeat' (first|apply zah|apply zaa|apply zak|apply zam|apply zaj|apply zag|apply zac hT;iterate 4 exact rfl|apply zab (hs:=hR);iterate 7 exact rfl|(apply zab (hs:=(hTm.mono (by simp)));iterate 7 exact rfl)|(apply zab (hs:=(hNr.mono (by simp)));iterate 7 exact rfl)|(apply zay hT;(iterate 5 exact rfl);first|(fail_if_success (have q:=g10));intro g10)|(apply zar hT;(iterate 6 exact rfl);exact sX;(iterate 3 exact rfl);exact nle rfl)|(apply zad;(iterate 5 exact rfl);first|(apply zaF hT;exact rfl;exact rfl;exact mX;exact rfl))|(apply zas;iterate 2 exact rfl)|(apply zan;iterate 2 exact rfl)|(apply zaH;exact rfl;all_goals(intro hb;(fail_if_success (change true=true at hb));(fail_if_success (change false=false at hb));(try dsimp only at hb);(try simp only[hb]);(first|replace hb:=odt hb|replace hb:=odf hb);(try omega)))|(apply zal;exact rfl;all_goals(intro hb;(try dsimp only at hb);(try simp only[hb]);(first|replace hb:=odt hb|replace hb:=odf hb);(try omega))))
    all_goals first
     |(exfalso;omega)
     |(apply ret2;exact rfl;exact rfl;exact⟨rfl,dX⟩)
     |skip
   ·have e1:inI ((k:Nat):Int)=true:=by
     unfold inI inB;simp;omega
    have hA3:=hA2 (zeP e1)
    rw[e1,if_pos rfl]at hNr
    rw[if_neg h1]
    by_cases h2:x+((k:Nat):Int)>9223372036854775807
    ·have e2:inI (x+((k:Nat):Int))=false:=by cases h:inI (x+((k:Nat):Int))with|false=>rfl|true=>exact absurd (zeP h).2 (by omega)
     rw[e2]at hA3
     rw[if_pos h2]
     refine zaf Tryz.func188 rfl rfl Tryz.results188 Tryz.ntmps188 rfl rfl ?_
     refine zaI hru rfl (fun hU=> ?_)
     have hU':=hU (by omega)
     repeat' (first|apply zah|apply zaa|apply zak|apply zam|apply zaj|apply zag|apply zac hT;iterate 4 exact rfl|apply zab (hs:=hR);iterate 7 exact rfl|(apply zab (hs:=(hTm.mono (by simp)));iterate 7 exact rfl)|(apply zab (hs:=(hNr.mono (by simp)));iterate 7 exact rfl)|(apply zab (hs:=(hA3.mono (by simp)));iterate 7 exact rfl)|(apply zay hT;(iterate 5 exact rfl);first|(fail_if_success (have q:=g10));intro g10)|(apply zar hT;(iterate 6 exact rfl);exact sX;(iterate 3 exact rfl);exact nle rfl)|(apply zaJ hT;(iterate 8 exact rfl);(iterate 2 omega);exact hU')|(apply zad;(iterate 5 exact rfl);exact zbe hT rfl rfl (hru.mono kX) rfl (zeG (kd:=.i64) hx))|(apply zad;(iterate 5 exact rfl);first|(apply zaq hT;exact rfl;exact rfl;(repeat(first|exact m0|apply mcm));exact rfl;exact rfl)|(apply zaF hT;exact rfl;exact rfl;exact mX;exact rfl))|(apply zas;iterate 2 exact rfl)|(apply zan;iterate 2 exact rfl)|(apply zaH;exact rfl;all_goals(intro hb;(fail_if_success (change true=true at hb));(fail_if_success (change false=false at hb));(try dsimp only at hb);(try simp only[hb]);(first|replace hb:=odt hb|replace hb:=odf hb);(try omega)))|(apply zal;exact rfl;all_goals(intro hb;(try dsimp only at hb);(try simp only[hb]);(first|replace hb:=odt hb|replace hb:=odf hb);(try omega))))
     all_goals first
      |(exfalso;omega)
      |(apply ret2;exact rfl;exact rfl;exact⟨rfl,dX⟩)
      |skip
    ·have e2:inI (x+((k:Nat):Int))=true:=by
      unfold inI inB;simp;omega
     rw[e2,if_pos rfl]at hA3
     rw[if_neg h2]
     refine zaf Tryz.func188 rfl rfl Tryz.results188 Tryz.ntmps188 rfl rfl ?_
     refine zaI hru rfl (fun hU=> ?_)
     have hU':=hU (by omega)
     refine zaI hrd rfl (fun hA=> ?_)
     have hA':=hA (by omega)
     repeat' (first|apply zah|apply zaa|apply zak|apply zam|apply zaj|apply zag|apply zac hT;iterate 4 exact rfl|apply zab (hs:=hR);iterate 7 exact rfl|(apply zab (hs:=(hTm.mono (by simp)));iterate 7 exact rfl)|(apply zab (hs:=(hNr.mono (by simp)));iterate 7 exact rfl)|(apply zab (hs:=(hA3.mono (by simp)));iterate 7 exact rfl)|(apply zay hT;(iterate 5 exact rfl);first|(fail_if_success (have q:=g10));intro g10)|(apply zar hT;(iterate 6 exact rfl);exact sX;(iterate 3 exact rfl);exact nle rfl)|(apply zaJ hT;(iterate 8 exact rfl);(iterate 2 omega);first|exact hU'|exact hA')|(apply zad;(iterate 5 exact rfl);first|exact zbe hT rfl rfl (hru.mono kX) rfl (zeG (kd:=.i64) hx)|exact zbx hT rfl rfl (hrd.mono kX) zaG.enc_len (za4 _ _ _) hq1 (by decide) rfl)|(apply zad;(iterate 5 exact rfl);first|(apply zaq hT;exact rfl;exact rfl;(repeat(first|exact m0|apply mcm));exact rfl;exact rfl)|(apply zaF hT;exact rfl;exact rfl;exact mX;exact rfl))|(apply zan;iterate 2 exact rfl)|(apply zaH;exact rfl;all_goals(intro hb;(fail_if_success (change true=true at hb));(fail_if_success (change false=false at hb));(try dsimp only at hb);(try simp only[hb]);(first|replace hb:=odt hb|replace hb:=odf hb);(try omega)))|(apply zal;exact rfl;all_goals(intro hb;(try dsimp only at hb);(try simp only[hb]);(first|replace hb:=odt hb|replace hb:=odf hb);(try omega))))
     all_goals first
      |(exfalso;omega)
      |(apply ret2;exact rfl;exact rfl;exact⟨by simp[*],dX⟩)
      |skip
 ·have hE:zjU ps used who price qty=.tuple #[.int .i64 0,.int .i64 5]:=by
   have:zdb ps used who price qty=5:=by unfold zdb;rw[if_pos hr]
   unfold zjU;rw[this];rfl
  rw[hE]
  generalize zcs ps who=r at*
  refine zaf Tryz.func188 rfl rfl Tryz.results188 Tryz.ntmps188 rfl rfl ?_
  repeat' (first|apply zah|apply zaa|apply zak|apply zaj|apply zag|apply zac hT;iterate 4 exact rfl|apply zab (hs:=hR);iterate 7 exact rfl|apply zan;iterate 2 exact rfl|(apply zal;exact rfl;all_goals(intro hb;(try dsimp only at hb);(try simp only[hb]);(first|replace hb:=zbc hb|replace hb:=zbd hb);(try omega))))
  all_goals first
   |(exfalso;omega)
   |(apply ret2;exact rfl;exact rfl;exact⟨rfl,dX⟩)
   |skip
theorem zn8 (W:World)(p:Nat)(A:Option Addr)(c:Nat)(U:Option Addr)(u:Nat)(ps:List zaG)(used:List Int)(who price qty:Int)(hl:used.length=ps.length)(hu:∀x∈used,0≤x∧x≤9223372036854775807)(hp:inW price)(hq:inW qty):
 zaw Tryz.prog W 183 [.pointer (some ⟨p,0,none⟩),.int .i64 who,.int .i64 price,.int .i64 qty] (zlE p A c U u ps used) (.int .i64 (zdb ps used who price qty)):=by
 refine zaw.ofD (fun h' hs=> ?_)
 have hA:=(zjV W p A c U u ps used who price qty hl hu hp hq).mono hs
 unfold zjU at hA
 refine zaf Tryz.func183 rfl rfl Tryz.results183 Tryz.ntmps183 rfl rfl ?_
 repeat' (first|apply zah|apply zaa|apply zak|apply zag|apply zac hT;iterate 4 exact rfl|apply zab (hs:=hA);iterate 7 exact rfl)
 all_goals first
  |(apply ret1;exact rfl;exact⟨rfl,dX⟩)
  |skip
theorem zpQ (W:World)(F:List zao)(p:Nat)(A:Option Addr)(c:Nat)(U:Option Addr)(u:Nat)(ps:List zaG)(used:List Int)(who price qty:Int)(hl:used.length=ps.length)(hu:∀x∈used,0≤x∧x≤9223372036854775807)(hp:inW price)(hq:inW qty):
 zax Tryz.prog W 154 [.pointer (some ⟨p,0,none⟩),.int .i64 who,.int .i64 price,.int .i64 qty] (zdW p A c U u ps used F)
  (fun v h'=>v=.int .i64 (zdb ps used who price qty)∧h'=zdW p A c U u ps (if zdb ps used who price qty=0 then used.set who.toNat (zdY used who+price*qty)else used) F):=by
 refine zax.dropTo ?_
 have hA:=(zjV W p A c U u ps used who price qty hl hu hp hq).mono (h':=zdW p A c U u ps used F) (zd4 mem0 mem1 mem2)
 unfold zjU at hA
 refine zaf Tryz.func154 rfl rfl Tryz.results154 Tryz.ntmps154 rfl rfl ?_
 by_cases hE:zdb ps used who price qty=0
 ·have hr:zcs ps who=2:=by
   unfold zdb at hE
   split at hE
   ·omega
   ·rename_i h;exact Decidable.not_not.1 h
  obtain⟨w0,w1,_⟩:=zcD (ps:=ps) (who:=who) (by rw[hr];decide)
  rw[hE,if_pos rfl]at hA
  rw[hE,if_pos rfl]
  unfold zdW at*
  refine zaI (zaz.ints (W:=W) mem2 hl) rfl (fun hU=> ?_)
  have hU':=hU (by omega)
  have hlay:lay (used.map (Value.int .i64)) (who.toNat*1) (Value.cells (.int .i64 (zdY used who+price*qty))).toList=(used.set who.toNat (zdY used who+price*qty)).map (Value.int .i64):=zhb (by omega)
  generalize zdY used who+price*qty=n at*
  repeat' (first|apply zah|apply zaa|apply zak|apply zag|apply zac hT;iterate 4 exact rfl|apply zab (hs:=hA);iterate 7 exact rfl|apply zaJ hT;(iterate 8 exact rfl);(iterate 2 omega);exact hU'|(apply zbn (A:=U) hT;(iterate 6 exact rfl);exact sX;exact rfl;exact rfl;exact rfl;(show who.toNat*1+1≤ps.length*1;omega);omega)|(apply zad;(iterate 5 exact rfl);first|(apply zaq hT;exact rfl;exact rfl;exact mX;exact rfl;exact rfl))|apply zas;iterate 2 exact rfl)
  all_goals first
   |(exfalso;omega)
   |(apply ret1;exact rfl;refine⟨_,?_,rfl,rfl⟩;rw[←hlay];exact dX)
   |skip
 ·rw[if_neg hE]
  generalize zdb ps used who price qty=e at*
  repeat' (first|apply zah|apply zaa|apply zak|apply zam|apply zag|apply zac hT;iterate 4 exact rfl|apply zab (hs:=hA);iterate 7 exact rfl|(apply zal;exact rfl;all_goals(intro hb;(try dsimp only at hb);(try simp only[hb]);(first|replace hb:=odt hb|replace hb:=odf hb);(try omega))))
  all_goals first
   |(exfalso;omega)
   |(apply ret1;exact rfl;exact⟨_,zaX,rfl,rfl⟩)
   |skip
/-! ### what is told -/
theorem zqY (to kind:Int){ns:List Int}(hl:ns.length≤6):lay (outM to kind []).enc 2 (ns.map (Value.int .i64))=(outM to kind ns).enc:=by
 rcases ns with _|⟨a,_|⟨b,_|⟨c,_|⟨d,_|⟨e,_|⟨f,_|⟨g,t⟩⟩⟩⟩⟩⟩⟩<;>first
  |rfl
  |(exfalso;simp only[List.length_cons]at hl;omega)
theorem zlF (W:World)(h:List zao)(A:Option Addr)(c:Nat)(to kind:Int)(ns:List Int)(hr:zaz W h A ns.length 1 (ns.map (Value.int .i64)))(hl:ns.length≤6):
 zaw Tryz.prog W 76 [.int .i64 to,.int .i64 kind,.slice A ns.length c] h (.agg (outM to kind ns).enc.toArray):=by
 refine zaw.ofD (fun h' hs=> ?_)
 have hrd:=hr.mono hs
 have hmin:Nat.min ns.length 6=ns.length:=Nat.min_eq_left hl
 have hlay:=zqY to kind hl
 refine zaf Tryz.func76 rfl rfl Tryz.results76 Tryz.ntmps76 rfl rfl ?_
 repeat' (first|apply zah|apply zaa|apply zak|apply zag|apply zac hT;iterate 4 exact rfl|(apply zay hT;(iterate 5 exact rfl);first|(fail_if_success (have q:=g6));intro g6|(fail_if_success (have q:=g7));intro g7)|(apply zaE hT (cs:=(zrn kind []).enc);iterate 4 exact rfl)|(apply zaE hT (cs:=(outM to kind []).enc);iterate 4 exact rfl)|(apply zar hT;(iterate 6 exact rfl);exact sX;(iterate 3 exact rfl);exact nle rfl)|(apply zkO hT;(iterate 7 exact rfl);exact nle rfl)|(apply zcd (vs:=ns.map (Value.int .i64)) (cur:=(outM to kind []).enc) hT;(iterate 10 exact rfl);exact sX;exact rfl;(rw[hmin];exact hrd.mono kX);(rw[llm];show 0+1+1+0+ns.length≤8;omega);(show ES _ _ _ _ _ _ _ (.blk g7 _ (lay _ 2 _)::_) _);rw[hlay])|(apply zad;(iterate 5 exact rfl);first|(apply zaF hT;exact rfl;exact rfl;exact mX;exact rfl)))
 all_goals first
  |(apply zhv;exact rfl;(apply zaF hT;exact rfl;exact rfl;exact mX;exact rfl);exact⟨rfl,dX⟩)
  |skip
def zai (g:Nat)(who id:Int)(o:Sp)(outs:List OutR)(F:List zao):List zao:=
 .blk g 155 [.int .i64 who,.int .i64 id,o.sl outs.length]::o.own outs.length 44 8 (outs.flatMap OutR.enc)::F
theorem zbY (W:World)(h:List zao)(g:Nat)(who id:Int)(o:Sp)(outs:List OutR)(F:List zao)(A:Option Addr)(c:Nat)(to kind:Int)(ns:List Int)(hp:h.Perm (zai g who id o outs F))
 (hm:zao.own A ns.length c 2 1 (ns.map (Value.int .i64))∈F)(hl:ns.length≤6)(hb:outs.length≤1000000):
 zax Tryz.prog W 84 [ptrV g,.int .i64 to,.int .i64 kind,.slice A ns.length c] h (fun v h'=>v=.tuple #[]∧∃o',h'=zai g who id o' (outs++[outM to kind ns]) F):=by
 refine zax.perm ?_ hp
 refine zax.dropTo ?_
 have hO:=fun h' (hr:zaz W h' A ns.length 1 (ns.map (Value.int .i64)))=>zlF W h' A c to kind ns hr hl
 have hR:zaz W F A ns.length 1 (ns.map (Value.int .i64)):=zaz.ints hm rfl
 generalize outM to kind ns=x at*
 unfold zai
 refine zaf Tryz.func84 rfl rfl Tryz.results84 Tryz.ntmps84 rfl rfl ?_
 repeat' (first|apply zag|apply zac hT;iterate 4 exact rfl|apply zaC [76] [] hmix;decide+kernel|(apply zab (hs:=(hO _ (hR.mono kX)));iterate 7 exact rfl)|apply zaB (cs:=x.enc) hT;(iterate 12 exact rfl);intro g17|(apply zbb hT;(iterate 10 exact rfl);exact sX;exact zaz.own mem0 rfl (OutR.enc_one x);omega;(show(_:Nat)*64≤_;omega);intro A' c')|(apply zar hT;(iterate 6 exact rfl);exact sX;(iterate 3 exact rfl);exact nle rfl)|(apply zad;(iterate 5 exact rfl);first|(apply zaq hT;exact rfl;exact rfl;exact mX;exact rfl;exact rfl)))
 all_goals first
  |(apply zl0;exact⟨_,(show za7 _ (zai g who id ⟨A',c'⟩ (outs++[x]) F)by(unfold zai Sp.sl Sp.own;rw[lla,List.flatMap_append];exact dX)),rfl,⟨A',c'⟩,rfl⟩)
  |skip
theorem zfz (W:World)(n:Int):zaw Tryz.prog W 145 [.int .i64 n] [] (.bool (zeV n)):=by
 refine zaw.ofD (fun h' hs=> ?_)
 refine zaf Tryz.func145 rfl rfl Tryz.results145 Tryz.ntmps145 rfl rfl ?_
 repeat' (first|apply zah|apply zaa|apply zak|apply zag|apply zac hT;iterate 4 exact rfl|apply zaK;iterate 3 exact rfl|(apply zaH;exact rfl;all_goals(intro hb;(fail_if_success (change true=true at hb));(fail_if_success (change false=false at hb));(try dsimp only at hb);(try simp only[hb]);(first|replace hb:=odt hb|replace hb:=odf hb);(try omega))))
 all_goals first
  |(apply ret1;exact rfl;exact⟨by(first|simp_all [zeV,inB];done|simp[zeV,inB];omega),dX⟩)
  |skip
theorem zn9 (W:World)(b:zaP)(how p q:Int)(hb:zcU b=true):zaw Tryz.prog W 174 [.agg b.enc.toArray,.int .i64 how,.int .i64 p,.int .i64 q] [] (.int .i64 (znb b how p q)):=by
 refine zaw.ofD (fun h' hs=> ?_)
 have hC:=zib W b p q hb
 have hQ:=ziY W b q hb
 unfold znb
 generalize zdj b p q=e1 at*
 generalize qtyE b q=e2 at*
 refine zaf Tryz.func174 rfl rfl Tryz.results174 Tryz.ntmps174 rfl rfl ?_
 repeat' (first|apply zah|apply zaa|apply zak|apply zam|apply zaj|apply zag|apply zac hT;iterate 4 exact rfl|apply zaA;(iterate 5 exact rfl);intro g4|(apply zab (hs:=(hC.mono (by simp)));iterate 7 exact rfl)|(apply zab (hs:=(hQ.mono (by simp)));iterate 7 exact rfl)|(apply zad;(iterate 5 exact rfl);first|(apply zaq hT;exact rfl;exact rfl;exact mX;exact rfl;exact rfl)|(apply zaF hT;exact rfl;exact rfl;exact mX;exact rfl))|(apply zal;exact rfl;all_goals(intro hb;(try dsimp only at hb);(try simp only[hb]);(first|replace hb:=zbc hb|replace hb:=zbd hb|skip);(try omega))))
 all_goals first
  |(exfalso;omega)
  |(apply ret1;exact rfl;exact⟨by(first|simp[*];done),dX⟩)
  |skip
theorem zfA (W:World)(x:DAd)(s:Dk)(q:zat)(hup:upA s.asks)(hb:s.asks.length≤1000000):
 zaw Tryz.prog W 86 [ptrV x.d,.agg q.enc.toArray] [.blk x.d 112 (zbD x s),.blk x.a 144 [x.asks.sl s.asks.length],x.asks.own s.asks.length 87 10 (s.asks.flatMap AskR.enc)] (.bool (zev s q)):=by
 refine zaw.ofD (fun h' hs=> ?_)
 have m0:=hs _ mem0
 have m1:=hs _ mem1
 have m2:=hs _ mem2
 have hG:=(zgS W x.a x.asks.A x.asks.c s.asks q.ask hb hup).mono (h':=h') (zbp m1 m2)
 unfold zev
 rcases hg:getA q.ask s.asks with _|a
 all_goals
  rw[hg]at hG
  refine zaf Tryz.func86 rfl rfl Tryz.results86 Tryz.ntmps86 rfl rfl ?_
  repeat' (first|apply zah|apply zaa|apply zak|apply zag|apply zac hT;iterate 4 exact rfl|apply zaK;iterate 3 exact rfl|apply zaC [78] [] hmix;decide+kernel|apply zaA;(iterate 5 exact rfl);intro g3|(apply zay hT;(iterate 5 exact rfl);first|(fail_if_success (have q:=g5));intro g5)|(apply zab (hs:=(hG.mono kX));iterate 7 exact rfl)|(apply zar hT;(iterate 6 exact rfl);exact sX;(iterate 3 exact rfl);exact nle rfl)|(apply zad;(iterate 5 exact rfl);first|(apply zaq hT;exact rfl;exact rfl;(repeat(first|exact mcs|exact m0|apply mcm));exact rfl;exact rfl))|(apply zaH;exact rfl;all_goals(intro hb;(fail_if_success (change true=true at hb));(fail_if_success (change false=false at hb));(try dsimp only at hb);(try simp only[hb]);(first|replace hb:=odt hb|replace hb:=odf hb);(try omega))))
  all_goals first
   |(exfalso;omega)
   |(apply ret1;exact rfl;exact⟨by(first|rfl),dX⟩)
   |skip
theorem zs4 {xs:Array Value}{e f:Int}(h:e=f):Value.tuple #[.agg xs,.int .i64 e]=.tuple #[.agg xs,.int .i64 f]:=by rw[h]
def zoa (s:Dk)(who id:Int):Value:=match getA id s.asks with
 |none=>.tuple #[.agg zrx.enc.toArray,.int .i64 4]
 |some a=>.tuple #[.agg a.enc.toArray,.int .i64 (zc0 s who id)]
theorem zhd (W:World)(x:DAd)(s:Dk)(g:Nat)(who id0 id:Int)(sl:Value)(hup:upA s.asks)(hb:s.asks.length≤1000000):
 zaw Tryz.prog W 149 [ptrV x.d,ptrV g,.int .i64 id] [.blk x.d 112 (zbD x s),.blk x.a 144 [x.asks.sl s.asks.length],x.asks.own s.asks.length 87 10 (s.asks.flatMap AskR.enc),.blk g 155 [.int .i64 who,.int .i64 id0,sl]] (zoa s who id):=by
 refine zaw.ofD (fun h' hs=> ?_)
 have m0:=hs _ mem0
 have m1:=hs _ mem1
 have m2:=hs _ mem2
 have m3:=hs _ mem3
 have hG:=(zgS W x.a x.asks.A x.asks.c s.asks id hb hup).mono (h':=h') (zbp m1 m2)
 unfold zoa zc0
 rcases hg:getA id s.asks with _|a
 all_goals
  rw[hg]at hG
  try unfold gotA at hG
  dsimp only at*
  refine zaf Tryz.func149 rfl rfl Tryz.results149 Tryz.ntmps149 rfl rfl ?_
  repeat' (first|apply zah|apply zaa|apply zak|apply zam|apply zaj|apply zag|apply zac hT;iterate 4 exact rfl|apply zaC [] [] hmix;decide+kernel|(apply zay hT;(iterate 5 exact rfl);first|(fail_if_success (have q:=g6));intro g6|(fail_if_success (have q:=g8));intro g8)|(apply zab (hs:=(hG.mono kX));iterate 7 exact rfl)|(apply zar hT;(iterate 6 exact rfl);exact sX;(iterate 3 exact rfl);exact nle rfl)|(apply zad;(iterate 5 exact rfl);first|(apply zaq hT;exact rfl;exact rfl;(repeat(first|exact mcs|exact m0|exact m3|apply mcm));exact rfl;exact rfl)|(apply zaF hT;exact rfl;exact rfl;exact mX;exact rfl))|(apply zas;iterate 2 exact rfl)|(apply zan;iterate 2 exact rfl)|(apply zal;exact rfl;all_goals(intro hb;(try dsimp only at hb);(try simp only[hb]);(first|replace hb:=zbc hb|replace hb:=zbd hb);(try omega))))
  all_goals first
   |(exfalso;omega)
   |(apply zeE;exact rfl;(apply zaF hT;exact rfl;exact rfl;exact mX;exact rfl);exact rfl;exact⟨zs4 (by first|rfl|simp[*];done),dX⟩)
   |skip
theorem zjW (W:World)(x:DAd)(s:Dk)(bks:List BAd)(a:AskR)(q:zat)(bd:BAd)(hl:bks.length=s.books.length)(h4:bks.length≤1000000)(h0:0≤a.bond)(hbd:bks[a.bond.toNat]? =some bd)(hbn:s.bonds[a.bond.toNat]? =some (zbv s a.bond))(hbk:za8 s a.bond.toNat=bd.l)(hB:za6 bd.l)(hp:q.price≤9223372036854775807)(hq:a.qty≤9223372036854775807):
 zaw Tryz.prog W 153 [ptrV x.d,.agg a.enc.toArray,.agg q.enc.toArray] [.blk x.d 112 (zbD x s),x.bonds.own s.bonds.length 95 7 (s.bonds.flatMap zaP.enc),x.books.own s.books.length 113 1 (bks.map BAd.ptr),.blk bd.p 152 [bd.s.sl bd.l.length],bd.s.own bd.l.length 168 6 (bd.l.flatMap zap.enc)] (.int .i64 (zcF s a q)):=by
 refine zaw.ofD (fun h' hs=> ?_)
 have m0:=hs _ mem0
 have m1:=hs _ mem1
 have m2:=hs _ mem2
 have m3:=hs _ mem3
 have m4:=hs _ mem4
 have hil:=(gsi.1 hbd).1
 have hbl:=(gsi.1 hbn).1
 have hC:=(zl6 W bd.p bd.s.A bd.s.c bd.l a.side q.price a.qty hB hp hq).mono (h':=h') (zbp m3 m4)
 have hrd:zaz W h' x.books.A s.books.length 1 (bks.map BAd.ptr):=zaz.own m2 (by simp[hl]) (fun v hv=>by
  obtain⟨y,_,rfl⟩:=lmm.1 hv
  rfl)
 have hrb:zaz W h' x.bonds.A s.bonds.length 7 (s.bonds.flatMap zaP.enc):=zaz.enc zaP.enc_len zaP.enc_one m1 rfl
 have hix:(bks.map BAd.ptr)[a.bond.toNat*1]? =some (ptrV bd.p):=by simp[hbd];rfl
 unfold zcF
 rw[hbk]
 generalize zeJ a.side q.price a.qty bd.l=e at*
 generalize zbv s a.bond=b at*
 refine zaf Tryz.func153 rfl rfl Tryz.results153 Tryz.ntmps153 rfl rfl ?_
 refine zaI hrd rfl (fun hA=> ?_)
 refine zaI hrb rfl (fun hA2=> ?_)
 have hA':=hA (by omega)
 have hA2':=hA2 (by omega)
 repeat' (first|apply zah|apply zaa|apply zak|apply zam|apply zag|apply zac hT;iterate 4 exact rfl|apply zaC [] [] hmix;decide+kernel|(apply zaA;(iterate 5 exact rfl);first|(fail_if_success (have q:=g4));intro g4|intro g5)|(apply zaJ hT;(iterate 8 exact rfl);(iterate 2 omega);first|exact hA'|exact hA2')|(apply zad;(iterate 5 exact rfl);first|exact zbe hT rfl rfl (hrd.mono kX) rfl hix|exact zbx hT rfl rfl (hrb.mono kX) zaP.enc_len (za4 _ _ _) hbn (by decide) rfl)|(apply zab (hs:=(hC.mono kX));iterate 7 exact rfl)|(apply zad;(iterate 5 exact rfl);first|(apply zaq hT;exact rfl;exact rfl;(repeat(first|exact mcs|exact m0|apply mcm));exact rfl;exact rfl))|(apply zal;exact rfl;all_goals(intro hb;(try dsimp only at hb);(try simp only[hb]);(first|skip);(try omega))))
 all_goals first
  |(exfalso;omega)
  |(apply ret1;exact rfl;exact⟨by(first|rfl),dX⟩)
  |skip
def DAd.at (y:DAd)(d:Nat):DAd:={y with d:=d}
theorem zic (W:World)(F:List zao)(x:DAd)(s:Dk)(bks:List BAd)(rows:List PRow)(id:Int)(hq:s.quotes.length≤1000000)(hd:s.due.length≤1000000):
 zax Tryz.prog W 123 [ptrV x.d,.int .i64 id] (zae x s bks rows F) (fun v h'=>v=.tuple #[]∧∃y:DAd,h'=zae (y.at x.d) (zc8 s id) bks rows F):=by
 refine zax.dropTo ?_
 have hC:=fun G=>znO W G x.q x.quotes.A x.quotes.c s.quotes id hq
 unfold zc8
 generalize hfl:s.quotes.filter (zdq id)=ids at*
 generalize (s.quotes.filter fun q=> !zdq id q)=qs at*
 have hids:ids.length≤1000000:=by rw[←hfl];exact Nat.le_trans (List.length_filter_le _ _) hq
 unfold zae
 refine zaf Tryz.func123 rfl rfl Tryz.results123 Tryz.ntmps123 rfl rfl ?_
 repeat' (first|apply zah|apply zaa|apply zaj|apply zag|apply zac hT;iterate 4 exact rfl|(apply zau (hs:=(zax.perm (hC _) pX));(iterate 7 exact rfl);rintro _ _ ⟨A1,c1,rfl,rfl,hf1⟩)|(apply zad;(iterate 5 exact rfl);first|(apply zaq hT;exact rfl;exact rfl;exact mX;exact rfl;exact rfl)))
 refine za1 (α:=Nat×Sp) (E:=fun z=>[(0,ptrV x.d),(1,.int .i64 id),(11,.slice A1 ids.length c1),(12,.int .i64 ids.length),(13,.int .i64 z.1)])
  (H:=fun z=>.own A1 ids.length c1 2 1 (ids.flatMap idC)::zae {x with due:=z.2} {s with quotes:=qs,due:=(ids.take z.1).foldl (fun l q=>zbg l 3 q.id) s.due} bks rows F) (μ:=fun z=>ids.length - z.1)
  (S:=fun z=>z.1≤ids.length) (0,x.due) (Nat.zero_le _) ⟨rfl,rfl,rfl,rfl,rfl,trivial⟩ ?_ ?_
 ·unfold zae
  exact dX
 ·rintro⟨k,u⟩ hk
  dsimp only at hk ⊢
  have hdl:((ids.take k).foldl (fun l q=>zbg l 3 q.id) s.due).length≤1000000:=Nat.le_trans (zg3 _ _) hd
  unfold zae
  by_cases hlt:k<ids.length
  ·obtain⟨q,hq1⟩:∃q,ids[k]? =some q:=⟨ids[k]'hlt,gge hlt⟩
   have hd1:decide ((k:Int)<(ids.length:Int))=true:=by simp;omega
   have hst:(ids.take (k+1)).foldl (fun l q=>zbg l 3 q.id) s.due=zbg ((ids.take k).foldl (fun l q=>zbg l 3 q.id) s.due) 3 q.id:=by
    rw[List.take_add_one,hq1,List.foldl_append];rfl
   have hD:=fun G=>zfp W G x.u u.A u.c ((ids.take k).foldl (fun l q=>zbg l 3 q.id) s.due) 3 q.id hdl
   rw[←hst]at hD
   generalize (ids.take k).foldl (fun l q=>zbg l 3 q.id) s.due=l1 at*
   generalize hl2:(ids.take (k+1)).foldl (fun l q=>zbg l 3 q.id) s.due=l2 at*
   have hrd:zaz W (.own A1 ids.length c1 2 1 (ids.flatMap idC)::[]) A1 ids.length 1 (ids.flatMap idC):=hf1.reads mem0
   have hix:(ids.flatMap idC)[(k:Int).toNat*1]? =some (.int .i64 q.id):=by
    rw[Int.toNat_natCast]
    exact zgz (enc:=idC) (k:=1) (fun _=>rfl) ids k 0 q hq1 (by decide)
   refine zaI (hf1.reads mem0) rfl (fun hAi=> ?_)
   have hA:=hAi (by omega)
   repeat' (first|apply zah|apply zaa|apply zam|apply zaj|apply zag|apply zac hT;iterate 4 exact rfl|(apply zaM hT;(iterate 4 exact rfl);(iterate 2 (first|omega)))|apply zaJ hT;(iterate 8 exact rfl);(iterate 2 omega);exact hA|(apply zad;(iterate 5 exact rfl);exact zbe hT rfl rfl (hrd.mono (by intro c hc;rw[lms.1 hc];exact mX)) rfl hix)|(apply zau (hs:=(zax.perm (hD _) pX));(iterate 7 exact rfl);rintro _ _ ⟨rfl,A3,c3,rfl⟩)|(apply zad;(iterate 5 exact rfl);first|(apply zaq hT;exact rfl;exact rfl;exact mX;exact rfl;exact rfl))|(apply zal;exact rfl;all_goals(intro hb;(try dsimp only at hb);(try simp only[hb]);(first|replace hb:=odt hb|replace hb:=odf hb);(try omega))))
   all_goals first
    |(exfalso;omega)
    |exact zaD (k+1,⟨A3,c3⟩) (by(try dsimp only);omega) (by(try dsimp only);omega) ⟨rfl,rfl,rfl,rfl,rfl,trivial⟩ (by dsimp only;rw[hl2];exact dX)
    |skip
  ·obtain rfl:k=ids.length:=by omega
   have hd1:decide ((ids.length:Int)<(ids.length:Int))=false:=by simp
   rw[List.take_length]at*
   generalize ids.foldl (fun l q=>zbg l 3 q.id) s.due=l1 at*
   have hD1:=fun G=>zfp W G x.u u.A u.c l1 1 id hdl
   have hD2:=fun G A c=>zfp W G x.u A c (zbg l1 1 id) 2 id (Nat.le_trans (zcH _ _ _) hdl)
   repeat' (first|apply zah|apply zaa|apply zaN|apply zag|apply zac hT;iterate 4 exact rfl|(apply zau (hs:=(zax.perm (hD1 _) pX));(iterate 7 exact rfl);rintro _ _ ⟨rfl,A3,c3,rfl⟩)|(apply zau (hs:=(zax.perm (hD2 _ A3 c3) pX));(iterate 7 exact rfl);rintro _ _ ⟨rfl,A4,c4,rfl⟩)|(apply zad;(iterate 5 exact rfl);first|(apply zaq hT;exact rfl;exact rfl;exact mX;exact rfl;exact rfl))|(apply zal;exact rfl;all_goals(intro hb;(try dsimp only at hb);(try simp only[hb]);(first|replace hb:=odt hb|replace hb:=odf hb);(try omega))))
   all_goals first
    |(exfalso;omega)
    |(apply zl0;exact⟨_,(show za7 _ (zae ({x with due:=⟨A4,c4⟩}:DAd) {s with quotes:=qs,due:=zbg (zbg l1 1 id) 2 id} bks rows F)by unfold zae;exact dX),rfl,{x with due:=⟨A4,c4⟩},rfl⟩)
    |skip
def zaZ (x:DAd)(g:Nat)(who:Int)(outs:List OutR)(F:List zao)(r:Rs)(v:Value)(h':List zao):Prop:=
 v=.int .i64 r.err∧∃(y:DAd) (o:Sp) (bks:List BAd) (rows:List PRow) (id:Int) (os:List OutR),
  h'=zai g who id o os (zae (y.at x.d) r.d bks rows F)∧zaY r.d bks rows∧(r.err=0→id=r.id∧os=outs++r.outs)
theorem zaZ.bad' {x:DAd}{g:Nat}{who:Int}{outs:List OutR}{F:List zao}{s:Dk}{bks:List BAd}{rows:List PRow}{id:Int}{o:Sp}{os:List OutR}{e:Int}(he:e≠0)(hf:zaY s bks rows):
 zaZ x g who outs F (bad s e) (.int .i64 e) (zai g who id o os (zae x s bks rows F)):=⟨rfl,x,o,bks,rows,id,os,rfl,hf,fun h=>absurd h he⟩
theorem zaZ.ok' {x y:DAd}{g:Nat}{who:Int}{outs:List OutR}{F:List zao}{s:Dk}{bks:List BAd}{rows:List PRow}{id:Int}{o:Sp}{os:List OutR}(hf:zaY s bks rows):
 zaZ x g who outs F ⟨s,id,os,0⟩ (.int .i64 0) (zai g who id o (outs++os) (zae (y.at x.d) s bks rows F)):=⟨rfl,y,o,bks,rows,id,_,rfl,hf,fun _=>⟨rfl,rfl⟩⟩
theorem zhe (W:World)(F:List zao)(x:DAd)(s:Dk)(bks:List BAd)(rows:List PRow)(g:Nat)(who id:Int)(o:Sp)(outs:List OutR)(a:AskR)(hup:upA s.asks)(ha:s.asks.length≤1000000)(hq:s.quotes.length≤1000000)(hd:s.due.length≤1000000)(hbo:outs.length≤1000000):
 zax Tryz.prog W 81 [ptrV x.d,ptrV g,.agg a.enc.toArray] (zai g who id o outs (zae x s bks rows F)) (fun v h'=>v=.tuple #[]∧∃(y:DAd) (o':Sp),h'=zai g who id o' (outs++ziO a) (zae (y.at x.d) (zeF s a) bks rows F)):=by
 refine zax.dropTo ?_
 have hE:=fun G=>znD W G x.a x.asks.A x.asks.c s.asks a.id 4 ha hup
 have hlen:(endA a.id 4 s.asks).length=s.asks.length:=(zfW hup).2
 have hC:=fun G=>zic W G x {s with asks:=endA a.id 4 s.asks} bks rows a.id hq hd
 unfold zeF ziO
 unfold zae
 unfold zai
 refine zaf Tryz.func81 rfl rfl Tryz.results81 Tryz.ntmps81 rfl rfl ?_
 repeat' (first|apply zah|apply zaa|apply zag|apply zac hT;iterate 4 exact rfl|apply zaC [] [] hmix;decide+kernel|apply zaA;(iterate 5 exact rfl);intro g5|(apply zau (hs:=(zax.perm (hE _) pX));(iterate 7 exact rfl);rintro _ _ ⟨rfl,rfl⟩)|(apply zau (hs:=(zax.perm (hC _) pX));(iterate 7 exact rfl);rintro _ _ ⟨rfl,y,rfl⟩)|apply zaB (cs:=[.int .i64 a.id]) hT;(iterate 12 exact rfl);intro g22|(apply zau (hs:=(zbY W _ g who id o outs _ (some ⟨g22,0,none⟩) 1 a.client 27 [a.id] pX mX (Nat.le_of_ble_eq_true rfl) hbo));(iterate 7 exact rfl);rintro _ _ ⟨rfl,o2,rfl⟩)|(apply zad;(iterate 5 exact rfl);first|(apply zaq hT;exact rfl;exact rfl;exact mX;exact rfl;exact rfl)))
 all_goals first
  |(apply zl0;exact⟨zai g who id o2 (outs++[outM a.client 27 [a.id]]) (zae (y.at x.d) (zc8 {s with asks:=endA a.id 4 s.asks} a.id) bks rows F),by(unfold zai zae;exact dX),rfl,y,o2,rfl⟩)
  |skip
theorem zfB (W:World)(F:List zao)(x:DAd)(s:Dk)(bks:List BAd)(rows:List PRow)(g:Nat)(who id:Int)(o:Sp)(outs:List OutR)(a:AskR)(hup:upA s.asks)(hupq:upQ s.quotes)(ha:s.asks.length≤1000000)(hq:s.quotes.length≤1000000)(hd:s.due.length≤1000000)(hbo:outs.length≤1000000):
 zax Tryz.prog W 80 [ptrV x.d,ptrV g,.agg a.enc.toArray] (zai g who id o outs (zae x s bks rows F)) (fun v h'=>v=.tuple #[]∧∃(y:DAd) (o':Sp),h'=zai g who id o' (outs++(zaU false s a).2) (zae (y.at x.d) (zaU false s a).1 bks rows F)):=by
 refine zax.dropTo ?_
 have hK:=fun G=>zgn W G x.q x.quotes.A x.quotes.c s.quotes a.hit hq hupq
 have hkl:(zb3 a.hit s.quotes).length≤1000000:=by rw[zg2];exact hq
 by_cases hn:s.now≥a.ends
 ·have e:zaU false s a=(zeF {s with quotes:=zb3 a.hit s.quotes} a,ziO a):=by
   unfold zaU;dsimp only;rw[if_pos hn];rfl
  rw[e]
  have hD:=fun G=>zhe W G x {s with quotes:=zb3 a.hit s.quotes} bks rows g who id o outs a hup ha hkl hd hbo
  unfold zae
  unfold zai
  refine zaf Tryz.func80 rfl rfl Tryz.results80 Tryz.ntmps80 rfl rfl ?_
  repeat' (first|apply zah|apply zaa|apply zak|apply zag|apply zac hT;iterate 4 exact rfl|apply zaC [] [] hmix;decide+kernel|apply zaA;(iterate 5 exact rfl);intro g5|(apply zau (hs:=(zax.perm (hK _) pX));(iterate 7 exact rfl);rintro _ _ ⟨rfl,rfl⟩)|(apply zau (hs:=(zax.perm (hD _) pX));(iterate 7 exact rfl);rintro _ _ ⟨rfl,y,o2,rfl⟩)|(apply zad;(iterate 5 exact rfl);first|(apply zaq hT;exact rfl;exact rfl;exact mX;exact rfl;exact rfl)|(apply zaF hT;exact rfl;exact rfl;exact mX;exact rfl))|(apply zal;exact rfl;all_goals(intro hb;(try dsimp only at hb);(try simp only[hb]);(first|replace hb:=odt hb|replace hb:=odf hb);(try omega))))
  all_goals first
   |(exfalso;omega)
   |(apply ret0;exact⟨zai g who id o2 (outs++ziO a) (zae (y.at x.d) (zeF {s with quotes:=zb3 a.hit s.quotes} a) bks rows F),by(unfold zai zae;exact dX),rfl,y,o2,rfl⟩)
   |skip
 ·have e:zaU false s a=({s with quotes:=zb3 a.hit s.quotes,asks:=zd2 a.id s.asks},[outM a.client 25 [a.id,a.hit]]):=by
   unfold zaU;dsimp only;rw[if_neg hn];rfl
  rw[e]
  have hB:=fun G=>zpm W G x.a x.asks.A x.asks.c s.asks a.id ha hup
  unfold zae
  unfold zai
  refine zaf Tryz.func80 rfl rfl Tryz.results80 Tryz.ntmps80 rfl rfl ?_
  repeat' (first|apply zah|apply zaa|apply zam|apply zag|apply zac hT;iterate 4 exact rfl|apply zaC [] [] hmix;decide+kernel|apply zaA;(iterate 5 exact rfl);intro g5|(apply zau (hs:=(zax.perm (hK _) pX));(iterate 7 exact rfl);rintro _ _ ⟨rfl,rfl⟩)|(apply zau (hs:=(zax.perm (hB _) pX));(iterate 7 exact rfl);rintro _ _ ⟨rfl,rfl⟩)|apply zaB (cs:=[.int .i64 a.id,.int .i64 a.hit]) hT;(iterate 12 exact rfl);intro g22|(apply zau (hs:=(zbY W _ g who id o outs _ (some ⟨g22,0,none⟩) 2 a.client 25 [a.id,a.hit] pX mX (Nat.le_of_ble_eq_true rfl) hbo));(iterate 7 exact rfl);rintro _ _ ⟨rfl,o2,rfl⟩)|(apply zad;(iterate 5 exact rfl);first|(apply zaq hT;exact rfl;exact rfl;exact mX;exact rfl;exact rfl))|(apply zal;exact rfl;all_goals(intro hb;(try dsimp only at hb);(try simp only[hb]);(first|replace hb:=odt hb|replace hb:=odf hb);(try omega))))
  all_goals first
   |(exfalso;omega)
   |(apply zl0;exact⟨zai g who id o2 (outs++[outM a.client 25 [a.id,a.hit]]) (zae x {s with quotes:=zb3 a.hit s.quotes,asks:=zd2 a.id s.asks} bks rows F),by(unfold zai zae;exact dX),rfl,x,o2,rfl⟩)
   |skip
theorem zob (W:World)(F:List zao)(x:DAd)(s:Dk)(bks:List BAd)(rows:List PRow)(g:Nat)(who id0 id:Int)(o:Sp)(outs:List OutR)(hf:zaY s bks rows)(hup:upA s.asks)(ha:s.asks.length≤1000000)(hq:s.quotes.length≤1000000)(hd:s.due.length≤1000000)(hbo:outs.length≤1000000):
 zax Tryz.prog W 114 [ptrV x.d,ptrV g,.int .i64 id] (zai g who id0 o outs (zae x s bks rows F)) (zaZ x g who outs F (zbE s who id)):=by
 refine zax.dropTo ?_
 have hM:=zhd W x s g who id0 id (o.sl outs.length) hup ha
 unfold zoa at hM
 rcases hg:getA id s.asks with _|a
 ·have e:zbE s who id=bad s 4:=by
   have:zc0 s who id=4:=by unfold zc0;rw[hg]
   unfold zbE;rw[this];rfl
  rw[hg]at hM
  rw[e]
  unfold zae
  unfold zai
  refine zaf Tryz.func114 rfl rfl Tryz.results114 Tryz.ntmps114 rfl rfl ?_
  repeat' (first|apply zah|apply zaa|apply zak|apply zam|apply zag|apply zac hT;iterate 4 exact rfl|(apply zab (hs:=(hM.mono (zhB mX mX mX mX)));iterate 7 exact rfl)|(apply zay hT;(iterate 5 exact rfl);first|(fail_if_success (have q:=g7));intro g7)|(apply zar hT;(iterate 6 exact rfl);exact sX;(iterate 3 exact rfl);exact nle rfl)|(apply zan;iterate 2 exact rfl))
  all_goals first
   |(exfalso;omega)
   |(apply ret1;exact rfl;exact⟨zai g who id0 o outs (zae x s bks rows F),by(unfold zai zae;exact dX),zaZ.bad' (by decide) hf⟩)
   |skip
 ·rw[hg]at hM
  dsimp only at hM
  by_cases hm:zc0 s who id=0
  ·have e:zbE s who id=⟨zeF s a,id,ziO a,0⟩:=by
    unfold zbE;rw[if_neg (by rw[hm];decide),hg]
   rw[hm]at hM
   rw[e]
   have hD:=fun G=>zhe W G x s bks rows g who id o outs a hup ha hq hd hbo
   unfold zae
   unfold zai
   refine zaf Tryz.func114 rfl rfl Tryz.results114 Tryz.ntmps114 rfl rfl ?_
   repeat' (first|apply zah|apply zaa|apply zak|apply zag|apply zac hT;iterate 4 exact rfl|(apply zab (hs:=(hM.mono (zhB mX mX mX mX)));iterate 7 exact rfl)|(apply zay hT;(iterate 5 exact rfl);first|(fail_if_success (have q:=g7));intro g7)|(apply zar hT;(iterate 6 exact rfl);exact sX;(iterate 3 exact rfl);exact nle rfl)|(apply zau (hs:=(zax.perm (hD _) pX));(iterate 7 exact rfl);rintro _ _ ⟨rfl,y,o2,rfl⟩)|(apply zad;(iterate 5 exact rfl);first|(apply zaF hT;exact rfl;exact rfl;exact mX;exact rfl))|(apply zas;iterate 2 exact rfl))
   all_goals first
    |(exfalso;omega)
    |(apply ret1;exact rfl;exact⟨zai g who id o2 (outs++ziO a) (zae (y.at x.d) (zeF s a) bks rows F),by(unfold zai zae;exact dX),zaZ.ok' hf⟩)
    |skip
  ·have e:zbE s who id=bad s (zc0 s who id):=by
    unfold zbE;rw[if_pos hm]
   rw[e]
   generalize zc0 s who id=er at*
   unfold zae
   unfold zai
   refine zaf Tryz.func114 rfl rfl Tryz.results114 Tryz.ntmps114 rfl rfl ?_
   repeat' (first|apply zah|apply zaa|apply zak|apply zam|apply zag|apply zac hT;iterate 4 exact rfl|(apply zab (hs:=(hM.mono (zhB mX mX mX mX)));iterate 7 exact rfl)|(apply zay hT;(iterate 5 exact rfl);first|(fail_if_success (have q:=g7));intro g7)|(apply zar hT;(iterate 6 exact rfl);exact sX;(iterate 3 exact rfl);exact nle rfl)|(apply zal;exact rfl;all_goals(intro hb;(try dsimp only at hb);(try simp only[hb]);(first|replace hb:=odt hb|replace hb:=odf hb);(try omega))))
   all_goals first
    |(exfalso;omega)
    |(apply ret1;exact rfl;exact⟨zai g who id0 o outs (zae x s bks rows F),by(unfold zai zae;exact dX),zaZ.bad' hm hf⟩)
    |skip
theorem zoc {id who:Int}{l:List zat}{q:zat}(hg:getQ id l=some q)(h:pullE id who l≠0):zd1 id who l=l:=by
 unfold zd1
 split
 ·unfold zb3
  rw[hg]
  dsimp only
  have hl:q.live=false:=by
   unfold pullE at h
   rename_i h12
   unfold pullE at h12
   rw[hg]at h h12
   dsimp only at h h12
   cases hv:q.live with
   |false=>rfl
   |true=>rw[hv]at h h12;simp at h h12;omega
  have hi:l[bsN (cQ id) l]? =some q:=by
   unfold getQ at hg
   split at hg
   ·exact hg
   ·cases hg
  refine zcC (l:=l) (i:=bsN (cQ id) l) (a:={q with live:=false}) ?_
  rw[hi]
  congr 1
  cases q
  simp at hl
  simp[hl]
 ·rfl
theorem zod (W:World)(F:List zao)(x:DAd)(s:Dk)(bks:List BAd)(rows:List PRow)(g:Nat)(who id0 id:Int)(o:Sp)(outs:List OutR)(hf:zaY s bks rows)(hup:upA s.asks)(hupq:upQ s.quotes)(ha:s.asks.length≤1000000)(hq:s.quotes.length≤1000000):
 zax Tryz.prog W 143 [ptrV x.d,ptrV g,.int .i64 id] (zai g who id0 o outs (zae x s bks rows F)) (zaZ x g who outs F (zc4 false s who id)):=by
 refine zax.dropTo ?_
 have hG:=ziL W x.q x.quotes.A x.quotes.c s.quotes id hq hupq
 rcases hg:getQ id s.quotes with _|q
 ·have e:zc4 false s who id=bad s 4:=by unfold zc4;rw[hg]
  rw[hg]at hG
  rw[e]
  unfold zae
  unfold zai
  refine zaf Tryz.func143 rfl rfl Tryz.results143 Tryz.ntmps143 rfl rfl ?_
  repeat' (first|apply zah|apply zaa|apply zak|apply zaj|apply zag|apply zac hT;iterate 4 exact rfl|(apply zab (hs:=(hG.mono (zbp mX mX)));iterate 7 exact rfl)|(apply zay hT;(iterate 5 exact rfl);first|(fail_if_success (have q:=g7));intro g7)|(apply zar hT;(iterate 6 exact rfl);exact sX;(iterate 3 exact rfl);exact nle rfl)|(apply zad;(iterate 5 exact rfl);first|(apply zaq hT;exact rfl;exact rfl;exact mX;exact rfl;exact rfl))|(apply zas;iterate 2 exact rfl))
  all_goals first
   |(exfalso;omega)
   |(apply ret1;exact rfl;exact⟨zai g who id0 o outs (zae x s bks rows F),by(unfold zai zae;exact dX),zaZ.bad' (by decide) hf⟩)
   |skip
 ·rw[hg]at hG
  have hL:=zfA W x s q hup ha
  have hP:=fun G=>zpi W G x.q x.quotes.A x.quotes.c s.quotes id who hq hupq
  by_cases h1:q.dealer=who
  ·cases h2:zev s q
   ·by_cases h3:pullE id who s.quotes=0
    ·have e:zc4 false s who id=⟨{s with quotes:=zd1 id who s.quotes},id,[],0⟩:=by
      unfold zc4;rw[hg];dsimp only;rw[if_neg (by simp[h1]),if_neg (by simp[h2]),if_neg (by simp[h3])];rfl
     rw[e]
     rw[h2]at hL
     rw[h3]at hP
     rw[←List.append_nil outs]
     generalize hqs:zd1 id who s.quotes=qs at*
     rw[List.append_nil]
     unfold zae
     unfold zai
     refine zaf Tryz.func143 rfl rfl Tryz.results143 Tryz.ntmps143 rfl rfl ?_
     repeat' (first|apply zah|apply zaa|apply zak|apply zam|apply zaj|apply zag|apply zac hT;iterate 4 exact rfl|apply zaC [] [] hmix;decide+kernel|(apply zab (hs:=(hG.mono (zbp mX mX)));iterate 7 exact rfl)|(apply zab (hs:=(hL.mono (zd4 mX mX mX)));iterate 7 exact rfl)|(apply zau (hs:=(zax.perm (hP _) pX));(iterate 7 exact rfl);rintro _ _ ⟨rfl,rfl⟩)|(apply zay hT;(iterate 5 exact rfl);first|(fail_if_success (have q:=g7));intro g7)|(apply zar hT;(iterate 6 exact rfl);exact sX;(iterate 3 exact rfl);exact nle rfl)|(apply zad;(iterate 5 exact rfl);first|(apply zaq hT;exact rfl;exact rfl;exact mX;exact rfl;exact rfl)|(apply zaF hT;exact rfl;exact rfl;exact mX;exact rfl))|(apply zan;iterate 2 exact rfl)|(apply zal;exact rfl;all_goals(intro hb;(try dsimp only at hb);(try simp only[hb]);(first|replace hb:=zbc hb|replace hb:=zbd hb);(try omega))))
     all_goals first
      |(exfalso;omega)
      |(apply ret1;exact rfl;exact⟨zai g who id o (outs++[]) (zae (x.at x.d) {s with quotes:=qs} bks rows F),by(rw[List.append_nil];unfold zai zae;exact dX),zaZ.ok' hf⟩)
      |skip
    ·have e:zc4 false s who id=bad s (pullE id who s.quotes):=by
      unfold zc4;rw[hg];dsimp only;rw[if_neg (by simp[h1]),if_neg (by simp[h2]),if_pos h3]
     rw[e]
     rw[h2]at hL
     have hsame:=zoc hg h3
     rw[hsame]at hP
     generalize pullE id who s.quotes=er at*
     unfold zae
     unfold zai
     refine zaf Tryz.func143 rfl rfl Tryz.results143 Tryz.ntmps143 rfl rfl ?_
     repeat' (first|apply zah|apply zaa|apply zak|apply zam|apply zaj|apply zag|apply zac hT;iterate 4 exact rfl|apply zaC [] [] hmix;decide+kernel|(apply zab (hs:=(hG.mono (zbp mX mX)));iterate 7 exact rfl)|(apply zab (hs:=(hL.mono (zd4 mX mX mX)));iterate 7 exact rfl)|(apply zau (hs:=(zax.perm (hP _) pX));(iterate 7 exact rfl);rintro _ _ ⟨rfl,rfl⟩)|(apply zay hT;(iterate 5 exact rfl);first|(fail_if_success (have q:=g7));intro g7)|(apply zar hT;(iterate 6 exact rfl);exact sX;(iterate 3 exact rfl);exact nle rfl)|(apply zad;(iterate 5 exact rfl);first|(apply zaq hT;exact rfl;exact rfl;exact mX;exact rfl;exact rfl)|(apply zaF hT;exact rfl;exact rfl;exact mX;exact rfl))|(apply zan;iterate 2 exact rfl)|(apply zal;exact rfl;all_goals(intro hb;(try dsimp only at hb);(try simp only[hb]);(first|replace hb:=zbc hb|replace hb:=zbd hb);(try omega))))
     all_goals first
      |(exfalso;omega)
      |(apply ret1;exact rfl;exact⟨zai g who id o outs (zae x s bks rows F),by(unfold zai zae;exact dX),zaZ.bad' h3 hf⟩)
      |skip
   ·have e:zc4 false s who id=bad s 11:=by
     unfold zc4;rw[hg];dsimp only;rw[if_neg (by simp[h1]),if_pos h2]
    rw[e]
    rw[h2]at hL
    unfold zae
    unfold zai
    refine zaf Tryz.func143 rfl rfl Tryz.results143 Tryz.ntmps143 rfl rfl ?_
    repeat' (first|apply zah|apply zaa|apply zak|apply zaj|apply zag|apply zac hT;iterate 4 exact rfl|apply zaC [] [] hmix;decide+kernel|(apply zab (hs:=(hG.mono (zbp mX mX)));iterate 7 exact rfl)|(apply zab (hs:=(hL.mono (zd4 mX mX mX)));iterate 7 exact rfl)|(apply zay hT;(iterate 5 exact rfl);first|(fail_if_success (have q:=g7));intro g7)|(apply zar hT;(iterate 6 exact rfl);exact sX;(iterate 3 exact rfl);exact nle rfl)|(apply zad;(iterate 5 exact rfl);first|(apply zaq hT;exact rfl;exact rfl;exact mX;exact rfl;exact rfl)|(apply zaF hT;exact rfl;exact rfl;exact mX;exact rfl))|(apply zas;iterate 2 exact rfl)|(apply zan;iterate 2 exact rfl)|(apply zal;exact rfl;all_goals(intro hb;(try dsimp only at hb);(try simp only[hb]);(first|replace hb:=zbc hb|replace hb:=zbd hb);(try omega))))
    all_goals first
     |(exfalso;omega)
     |(apply ret1;exact rfl;exact⟨zai g who id0 o outs (zae x s bks rows F),by(unfold zai zae;exact dX),zaZ.bad' (by decide) hf⟩)
     |skip
  ·have e:zc4 false s who id=bad s 5:=by
    unfold zc4;rw[hg];dsimp only;rw[if_pos h1]
   rw[e]
   unfold zae
   unfold zai
   refine zaf Tryz.func143 rfl rfl Tryz.results143 Tryz.ntmps143 rfl rfl ?_
   repeat' (first|apply zah|apply zaa|apply zak|apply zaj|apply zag|apply zac hT;iterate 4 exact rfl|apply zaC [] [] hmix;decide+kernel|(apply zab (hs:=(hG.mono (zbp mX mX)));iterate 7 exact rfl)|(apply zay hT;(iterate 5 exact rfl);first|(fail_if_success (have q:=g7));intro g7)|(apply zar hT;(iterate 6 exact rfl);exact sX;(iterate 3 exact rfl);exact nle rfl)|(apply zad;(iterate 5 exact rfl);first|(apply zaq hT;exact rfl;exact rfl;exact mX;exact rfl;exact rfl))|(apply zan;iterate 2 exact rfl)|(apply zal;exact rfl;all_goals(intro hb;(try dsimp only at hb);(try simp only[hb]);(first|replace hb:=zbc hb|replace hb:=zbd hb);(try omega))))
   all_goals first
    |(exfalso;omega)
    |(apply ret1;exact rfl;exact⟨zai g who id0 o outs (zae x s bks rows F),by(unfold zai zae;exact dX),zaZ.bad' (by decide) hf⟩)
    |skip
/-! ### places -/
theorem zpR {s:Dk}{bks:List BAd}{rows:List PRow}(hf:zaY s bks rows){n:Nat}(hn:n<s.books.length):∃bd,bks[n]? =some bd∧za8 s n=bd.l∧s.books[n]? =some bd.l:=by
 have hl:bks.length=s.books.length:=by rw[←hf.1];simp
 refine⟨bks[n]'(by omega),gge (by omega),?_,?_⟩
 ·unfold za8
  rw[←hf.1]
  simp[List.getD,gge (show n<bks.length by omega)]
 ·rw[←hf.1]
  simp[gge (show n<bks.length by omega)]
theorem zfC {s:Dk}{bks:List BAd}{rows:List PRow}(hf:zaY s bks rows):bks.length=s.books.length:=by rw[←hf.1];simp
theorem DOK.few {N:Nat}{s:Dk}(h:DOK N s):s.books.length≤4∧s.bonds.length≤4∧s.parties.length≤8:=by
 have:=zbO h.rules
 have:=h.nbk
 omega
theorem zel (W:World)(x:DAd)(s:Dk)(n:Int):zaw Tryz.prog W 96 [ptrV x.d,.int .i64 n] [.blk x.d 112 (zbD x s)] (.bool (zcE s n)):=
 (zg7 W x s n).cast rfl
theorem zfD (W:World)(F:List zao)(x:DAd)(s:Dk)(bks:List BAd)(rows:List PRow)(N:Nat)(hD:DOK N s)(hf:zaY s bks rows)(a:AskR)(q:zat)(haO:zhA s a)(hqp:q.price≤1000000):
 zaw Tryz.prog W 153 [ptrV x.d,.agg a.enc.toArray,.agg q.enc.toArray] (zae x s bks rows F) (.int .i64 (zcF s a q)):=by
 obtain⟨_,⟨b0,b1⟩,_,⟨q0,q1⟩,_⟩:=haO
 have hn:=hD.nbk
 have hl:=zfC hf
 have h4:=hD.few
 obtain⟨bd,h1,h2,h3⟩:=zpR hf (n:=a.bond.toNat) (by omega)
 obtain⟨_,hbn,_⟩:=zdn (s:=s) (n:=a.bond) hn (by unfold zcE;simp;omega)
 have hbl:(bks.flatMap BAd.ck).length≥0:=Nat.zero_le _
 have hm1:∀c∈BAd.ck bd,c∈bks.flatMap BAd.ck:=fun c hc=>List.mem_flatMap.2 ⟨bd,mog h1,hc⟩
 refine(zjW W x s bks a q bd hl (by omega) b0 h1 hbn h2 (hD.bks _ (mog h3)) (by omega) (by omega)).mono ?_
 intro c hc
 simp only[List.mem_cons,List.not_mem_nil,or_false]at hc
 rcases hc with rfl|rfl|rfl|rfl|rfl
 ·unfold zae;exact mX
 ·unfold zae;exact mX
 ·unfold zae;exact mX
 ·unfold zae
  iterate 18 (apply mcm)
  exact List.mem_append_left _ (hm1 _ (by unfold BAd.ck;exact mem0))
 ·unfold zae
  iterate 18 (apply mcm)
  exact List.mem_append_left _ (hm1 _ (by unfold BAd.ck;exact mem1))
theorem zgr {x i:Int}(h0:0≤x)(h1:x≤18446744073709551615)(hi:0≤i∧i<64):bitI .and .u64 (Int.fdiv x (2^(min i.toNat (IntKind.bits .u64)))) 1=if zgJ x i then 1 else 0:=by
 obtain⟨n,rfl⟩:=Int.eq_ofNat_of_zero_le h0
 obtain⟨k,rfl⟩:=Int.eq_ofNat_of_zero_le hi.1
 have hk:min ((k:Int).toNat) (IntKind.bits .u64)=k:=by
  rw[Int.toNat_natCast]
  exact Nat.min_eq_left (by show k≤64;omega)
 rw[hk]
 have hdiv:Int.fdiv (n:Int) (2^k)=((n / 2^k:Nat):Int):=by
  rw[show((2:Int)^k)=((2^k:Nat):Int)by push_cast;rfl,Int.fdiv_eq_ediv_of_nonneg _ (Int.natCast_nonneg _)]
  exact(Int.natCast_ediv n (2^k)).symm
 rw[hdiv]
 generalize hm:n / 2^k=m
 have hmlt:m<2^64:=by
  rw[←hm]
  exact Nat.lt_of_le_of_lt (Nat.div_le_self _ _) (by omega)
 have hbit:zgJ (n:Int) (k:Int)=decide (m%2=1):=by
  unfold zgJ
  rw[Int.toNat_natCast,←hm]
  have:((n:Int) / 2^k%2)=((n / 2^k%2:Nat):Int):=by push_cast;rfl
  rw[this]
  congr 1
  simp only[eq_iff_iff]
  omega
 rw[hbit]
 show IntKind.wrap .u64 ((BitVec.ofInt 64 (m:Int) &&& BitVec.ofInt 64 1).toNat:Int)=_
 have hv:(BitVec.ofInt 64 (m:Int) &&& BitVec.ofInt 64 1).toNat=m%2:=by
  rw[BitVec.toNat_and]
  have e1:(BitVec.ofInt 64 (m:Int)).toNat=m:=by
   rw[BitVec.ofInt_natCast,BitVec.toNat_ofNat,Nat.mod_eq_of_lt hmlt]
  rw[e1]
  exact Nat.and_one_is_mod m
 rw[hv]
 have h2:m%2=0∨m%2=1:=by omega
 rcases h2 with h2|h2<;>rw[h2]<;>rfl
def MsgW (m:MsgR):Prop:=inW m.f0∧inW m.f1∧inW m.f2∧inW m.f3∧inW m.f4∧inW m.f5
theorem zoe (W:World)(F:List zao)(x:DAd)(s:Dk)(bks:List BAd)(rows:List PRow)(N:Nat)(hD:DOK N s)(hf:zaY s bks rows)(g:Nat)(who id0 n is:Int)(o:Sp)(outs:List OutR):
 zax Tryz.prog W 116 [ptrV x.d,ptrV g,.int .i64 n,.int .i64 is] (zai g who id0 o outs (zae x s bks rows F)) (zaZ x g who outs F (zdJ s n is)):=by
 refine zax.dropTo ?_
 have hI:=zel W x s n
 cases hn:zcE s n
 ·have e:zdJ s n is=bad s 4:=by unfold zdJ;rw[if_pos hn]
  rw[hn]at hI
  rw[e]
  unfold zae
  unfold zai
  refine zaf Tryz.func116 rfl rfl Tryz.results116 Tryz.ntmps116 rfl rfl ?_
  repeat' (first|apply zah|apply zaa|apply zak|apply zaj|apply zag|apply zac hT;iterate 4 exact rfl|(apply zab (hs:=(hI.mono (zdr mX)));iterate 7 exact rfl)|apply zas;iterate 2 exact rfl)
  all_goals first
   |(exfalso;omega)
   |(apply ret1;exact rfl;exact⟨zai g who id0 o outs (zae x s bks rows F),by(unfold zai zae;exact dX),zaZ.bad' (by decide) hf⟩)
   |skip
 ·rw[hn]at hI
  by_cases hi:is≠0∧is≠1
  ·have e:zdJ s n is=bad s 1:=by unfold zdJ;rw[if_neg (by rw[hn];decide),if_pos hi]
   rw[e]
   unfold zae
   unfold zai
   refine zaf Tryz.func116 rfl rfl Tryz.results116 Tryz.ntmps116 rfl rfl ?_
   repeat' (first|apply zah|apply zaa|apply zak|apply zaj|apply zag|apply zac hT;iterate 4 exact rfl|(apply zab (hs:=(hI.mono (zdr mX)));iterate 7 exact rfl)|apply zan;iterate 2 exact rfl|(apply zaH;exact rfl;all_goals(intro hb;(fail_if_success (change true=true at hb));(fail_if_success (change false=false at hb));(try dsimp only at hb);(try simp only[hb]);(first|replace hb:=zbc hb|replace hb:=zbd hb);(try omega)))|(apply zal;exact rfl;all_goals(intro hb;(try dsimp only at hb);(try simp only[hb]);(first|replace hb:=zbc hb|replace hb:=zbd hb);(try omega))))
   all_goals first
    |(exfalso;omega)
    |(apply ret1;exact rfl;exact⟨zai g who id0 o outs (zae x s bks rows F),by(unfold zai zae;exact dX),zaZ.bad' (by decide) hf⟩)
    |skip
  ·obtain⟨⟨n0,n1⟩,hbn,_⟩:=zdn hD.nbk hn
   have hbl:=(gsi.1 hbn).1
   have e:zdJ s n is=⟨{s with bonds:=s.bonds.set n.toNat {zbv s n with halted:=is==1}},n,[],0⟩:=by unfold zdJ;rw[if_neg (by rw[hn];decide),if_neg hi]
   rw[e]
   generalize zbv s n=b at*
   have hlay:∀v:Bool,lay (s.bonds.flatMap zaP.enc) (n.toNat*7+6) [.bool v]=(s.bonds.set n.toNat {b with halted:=v}).flatMap zaP.enc:=fun v=>zbQ zaP.enc_len hbn (Nat.le_of_ble_eq_true rfl) rfl
   have hrb:zaz W (zai g who id0 o outs (zae x s bks rows F)) x.bonds.A s.bonds.length 7 (s.bonds.flatMap zaP.enc):=zaz.enc (c:=x.bonds.c) zaP.enc_len zaP.enc_one (by unfold zai zae;exact mX) rfl
   rw[←List.append_nil outs]
   generalize hbv:(is==1)=bv
   generalize hbs:s.bonds.set n.toNat {b with halted:=bv}=bs
   have hbsl:bs.length=s.bonds.length:=by rw[←hbs];simp
   have hlb:=hlay bv
   rw[hbs]at hlb
   have hcs:zbD (x.at x.d) {s with bonds:=bs}=zbD x s:=by simp only[zbD,DAd.at,hbsl]
   rw[List.append_nil]
   refine zaf Tryz.func116 rfl rfl Tryz.results116 Tryz.ntmps116 rfl rfl ?_
   refine zaI hrb rfl (fun hAi=> ?_)
   have hA:=hAi (by omega)
   unfold zae
   unfold zai
   have hcase:is=0∨is=1:=by omega
   rcases hcase with rfl|rfl
   all_goals
    have hbv2:=hbv
    (first|rw[show((0:Int)==1)=false from rfl]at hbv2|rw[show((1:Int)==1)=true from rfl]at hbv2)
    subst hbv2
    repeat' (first|apply zah|apply zaa|apply zak|apply zam|apply zaj|apply zag|apply zac hT;iterate 4 exact rfl|apply zaK;iterate 3 exact rfl|(apply zab (hs:=(hI.mono (zdr mX)));iterate 7 exact rfl)|apply zaJ hT;(iterate 8 exact rfl);(iterate 2 omega);exact hA|(apply zar hT;(iterate 6 exact rfl);exact sX;(iterate 3 exact rfl);exact nle rfl)|(apply zbn (A:=x.bonds.A) hT;(iterate 6 exact rfl);exact sX;exact za4 _ _ _;exact rfl;exact rfl;(show n.toNat*7+6+1≤s.bonds.length*7;omega);omega)|(apply zad;(iterate 5 exact rfl);first|(apply zaq hT;exact rfl;exact rfl;exact mX;exact rfl;exact rfl))|apply zan;iterate 2 exact rfl)
    all_goals first
     |(exfalso;omega)
     |(apply ret1;exact rfl;exact⟨zai g who n o (outs++[]) (zae (x.at x.d) {s with bonds:=bs} bks rows F),by(rw[List.append_nil];unfold zai zae;rw[hcs,←hlb,hbsl];exact dX),zaZ.ok' hf⟩)
     |skip
theorem zmp (W:World)(F:List zao)(x:DAd)(s:Dk)(bks:List BAd)(rows:List PRow)(N:Nat)(hD:DOK N s)(hN:N≤10000)(hf:zaY s bks rows)(g:Nat)(who id0:Int)(o:Sp)(outs:List OutR)(m:MsgR)(hk:m.kind=10)(hmw:MsgW m)(hw:0≤who∧who<8)(hbo:outs.length≤1000000):
 zax Tryz.prog W 111 [ptrV x.d,ptrV g,.agg m.enc.toArray] (zai g who id0 o outs (zae x s bks rows F)) (zaZ x g who outs F (zcZ false s who m)):=by
 refine zax.dropTo ?_
 have hla:s.asks.length≤1000000:=by have:=hD.na;omega
 have hlq:s.quotes.length≤1000000:=by have:=hD.nq;omega
 have hld:s.due.length≤1000000:=by have:=hD.nd;omega
 have hnq:=hD.quote
 have hnw:=hD.now
 have hG:=zgS W x.a x.asks.A x.asks.c s.asks m.f0 hla hD.upa
 rcases hg:getA m.f0 s.asks with _|a
 ·have e:zcZ false s who m=bad s 4:=by unfold zcZ;rw[hg]
  rw[hg]at hG
  rw[e]
  unfold zae
  unfold zai
  refine zaf Tryz.func111 rfl rfl Tryz.results111 Tryz.ntmps111 rfl rfl ?_
  repeat' (first|apply zah|apply zaa|apply zak|apply zam|apply zaj|apply zag|apply zac hT;iterate 4 exact rfl|apply zaC [78] [] hmix;decide+kernel|apply zaA;(iterate 5 exact rfl);intro g5|(apply zay hT;(iterate 5 exact rfl);first|(fail_if_success (have q:=g7));intro g7)|(apply zar hT;(iterate 6 exact rfl);exact sX;(iterate 3 exact rfl);exact nle rfl)|(apply zaS hT;(iterate 9 exact rfl);(iterate 2 omega))|(apply zab (hs:=(hG.mono (zbp mX mX)));iterate 7 exact rfl)|(apply zad;(iterate 5 exact rfl);first|(apply zaq hT;exact rfl;exact rfl;exact mX;exact rfl;exact rfl))|(apply zas;iterate 2 exact rfl)|(apply zal;exact rfl;all_goals(intro hb;(try dsimp only at hb);(try simp only[hb]);(first|replace hb:=odt hb|replace hb:=odf hb);(try omega))))
  all_goals first
   |(exfalso;omega)
   |(apply ret1;exact rfl;exact⟨zai g who id0 o outs (zae x s bks rows F),by(unfold zai zae;exact dX),zaZ.bad' (by decide) hf⟩)
   |skip
 ·rw[hg]at hG
  have ham:=zbh hg
  have haO:=hD.as_ a ham.1
  obtain⟨_,⟨b0,b1⟩,_,⟨q0,q1⟩,⟨c0,c1⟩,⟨d0,d1⟩,⟨e0,e1⟩⟩:=haO
  obtain⟨hbN,hbI⟩:=hD.bondA ham.1
  obtain⟨_,hbn,_⟩:=zdn hD.nbk hbN
  have hbl:=(gsi.1 hbn).1
  have hPr:=zia W (zbv s a.bond) m.f1 hbI
  have hWn:=zfz W m.f2
  have hrb:zaz W (zai g who id0 o outs (zae x s bks rows F)) x.bonds.A s.bonds.length 7 (s.bonds.flatMap zaP.enc):=zaz.enc (c:=x.bonds.c) zaP.enc_len zaP.enc_one (by unfold zai zae;exact mX) rfl
  have hbit0:=zgr (x:=a.dealers) (i:=who) d0 d1 (by omega)
  unfold zcZ
  rw[hg]
  dsimp only
  generalize hbb:zbv s a.bond=b at*
  generalize zgJ a.dealers who=db at*
  cases db
  ·have hbit:bitI .and .u64 (Int.fdiv a.dealers (2^(min who.toNat (IntKind.bits .u64)))) 1=0:=hbit0
   have hhal:(zaP.enc b)[6]? =some (.bool b.halted):=rfl
   rw[if_pos rfl]
   refine zaf Tryz.func111 rfl rfl Tryz.results111 Tryz.ntmps111 rfl rfl ?_
   refine zaI hrb rfl (fun hAi=> ?_)
   have hA:=hAi (by omega)
   unfold zae
   unfold zai
   repeat' (first|apply zah|apply zaa|apply zak|apply zam|apply zaj|apply zag|apply zac hT;iterate 4 exact rfl|apply zaC [78] [] hmix;decide+kernel|apply zaA;(iterate 5 exact rfl);intro g5|(apply zay hT;(iterate 5 exact rfl);first|(fail_if_success (have q:=g7));intro g7)|(apply zar hT;(iterate 6 exact rfl);exact sX;(iterate 3 exact rfl);exact nle rfl)|(apply zaS hT;(iterate 9 exact rfl);(iterate 2 omega))|(apply zab (hs:=(hG.mono (zbp mX mX)));iterate 7 exact rfl)|(apply zdg;(iterate 5 exact rfl);omega)|(apply zcr;(iterate 6 exact rfl);rw[hbit])|(apply zad;(iterate 5 exact rfl);first|(apply zaq hT;exact rfl;exact rfl;exact mX;exact rfl;exact rfl))|(apply zas;iterate 2 exact rfl)|(apply zan;iterate 2 exact rfl)|(apply zal;exact rfl;all_goals(intro hb;(try dsimp only at hb);(try simp only[hb]);(first|replace hb:=odt hb|replace hb:=odf hb);(try omega))))
   all_goals first
    |(exfalso;omega)
    |(apply ret1;exact rfl;exact⟨zai g who id0 o outs (zae x s bks rows F),by(unfold zai zae;exact dX),zaZ.bad' (by decide) hf⟩)
    |skip
  ·have hbit:bitI .and .u64 (Int.fdiv a.dealers (2^(min who.toNat (IntKind.bits .u64)))) 1=1:=hbit0
   rw[if_neg (by decide)]
   by_cases hst:a.state≠1
   ·have hhal:(zaP.enc b)[6]? =some (.bool b.halted):=rfl
    rw[if_pos hst]
    refine zaf Tryz.func111 rfl rfl Tryz.results111 Tryz.ntmps111 rfl rfl ?_
    refine zaI hrb rfl (fun hAi=> ?_)
    have hA:=hAi (by omega)
    unfold zae
    unfold zai
    repeat' (first|apply zah|apply zaa|apply zak|apply zam|apply zaj|apply zag|apply zac hT;iterate 4 exact rfl|apply zaC [78] [] hmix;decide+kernel|apply zaA;(iterate 5 exact rfl);intro g5|(apply zay hT;(iterate 5 exact rfl);first|(fail_if_success (have q:=g7));intro g7)|(apply zar hT;(iterate 6 exact rfl);exact sX;(iterate 3 exact rfl);exact nle rfl)|(apply zaS hT;(iterate 9 exact rfl);(iterate 2 omega))|(apply zab (hs:=(hG.mono (zbp mX mX)));iterate 7 exact rfl)|(apply zdg;(iterate 5 exact rfl);omega)|(apply zcr;(iterate 6 exact rfl);rw[hbit])|(apply zad;(iterate 5 exact rfl);first|(apply zaq hT;exact rfl;exact rfl;exact mX;exact rfl;exact rfl))|(apply zan;iterate 2 exact rfl)|(apply zal;exact rfl;all_goals(intro hb;(try dsimp only at hb);(try simp only[hb]);(first|replace hb:=odt hb|replace hb:=odf hb|replace hb:=zbc hb|replace hb:=zbd hb);(try omega))))
    all_goals first
     |(exfalso;omega)
     |(apply ret1;exact rfl;exact⟨zai g who id0 o outs (zae x s bks rows F),by(unfold zai zae;exact dX),zaZ.bad' (by decide) hf⟩)
     |skip
   ·rw[if_neg hst]
    cases hh:b.halted
    ·have hhal:(zaP.enc b)[6]? =some (.bool false):=by rw[←hh];rfl
     rw[if_neg (by decide)]
     by_cases hp:zei b m.f1≠0
     ·rw[if_pos hp]
      generalize zei b m.f1=pe at*
      refine zaf Tryz.func111 rfl rfl Tryz.results111 Tryz.ntmps111 rfl rfl ?_
      refine zaI hrb rfl (fun hAi=> ?_)
      have hA:=hAi (by omega)
      unfold zae
      unfold zai
      repeat' (first|apply zah|apply zaa|apply zak|apply zam|apply zaj|apply zag|apply zac hT;iterate 4 exact rfl|apply zaC [78] [] hmix;decide+kernel|apply zaA;(iterate 5 exact rfl);intro g5|(apply zay hT;(iterate 5 exact rfl);first|(fail_if_success (have q:=g7));intro g7)|(apply zar hT;(iterate 6 exact rfl);exact sX;(iterate 3 exact rfl);exact nle rfl)|(apply zaS hT;(iterate 9 exact rfl);(iterate 2 omega))|(apply zab (hs:=(hG.mono (zbp mX mX)));iterate 7 exact rfl)|(apply zdg;(iterate 5 exact rfl);omega)|(apply zcr;(iterate 6 exact rfl);rw[hbit])|(apply zaJ hT;(iterate 8 exact rfl);(iterate 2 omega);exact hA)|(apply zad;(iterate 5 exact rfl);first|exact zbx hT rfl rfl (hrb.mono kX) zaP.enc_len (za4 _ _ _) hbn (by decide) hhal|exact zaO hT rfl rfl (hrb.mono kX) zaP.enc_len rfl hbn rfl)|(apply zab (hs:=(hPr.mono (by simp)));iterate 7 exact rfl)|(apply zad;(iterate 5 exact rfl);first|(apply zaq hT;exact rfl;exact rfl;exact mX;exact rfl;exact rfl))|(apply zan;iterate 2 exact rfl)|(apply zal;exact rfl;all_goals(intro hb;(try dsimp only at hb);(try simp only[hb]);(first|replace hb:=odt hb|replace hb:=odf hb|replace hb:=zbc hb|replace hb:=zbd hb);(try omega))))
      all_goals first
       |(exfalso;omega)
       |(apply ret1;exact rfl;exact⟨zai g who id0 o outs (zae x s bks rows F),by(unfold zai zae;exact dX),zaZ.bad' hp hf⟩)
       |skip
     ·rw[if_neg hp]
      have hp:=Decidable.not_not.1 hp
      rw[hp]at hPr
      cases hwn:zeV m.f2
      ·rw[hwn]at hWn
       rw[if_pos rfl]
       refine zaf Tryz.func111 rfl rfl Tryz.results111 Tryz.ntmps111 rfl rfl ?_
       refine zaI hrb rfl (fun hAi=> ?_)
       have hA:=hAi (by omega)
       unfold zae
       unfold zai
       repeat' (first|apply zah|apply zaa|apply zak|apply zam|apply zaj|apply zag|apply zac hT;iterate 4 exact rfl|apply zaC [78] [] hmix;decide+kernel|apply zaA;(iterate 5 exact rfl);intro g5|(apply zay hT;(iterate 5 exact rfl);first|(fail_if_success (have q:=g7));intro g7)|(apply zar hT;(iterate 6 exact rfl);exact sX;(iterate 3 exact rfl);exact nle rfl)|(apply zaS hT;(iterate 9 exact rfl);(iterate 2 omega))|(apply zab (hs:=(hG.mono (zbp mX mX)));iterate 7 exact rfl)|(apply zdg;(iterate 5 exact rfl);omega)|(apply zcr;(iterate 6 exact rfl);rw[hbit])|(apply zaJ hT;(iterate 8 exact rfl);(iterate 2 omega);exact hA)|(apply zad;(iterate 5 exact rfl);first|exact zbx hT rfl rfl (hrb.mono kX) zaP.enc_len (za4 _ _ _) hbn (by decide) hhal|exact zaO hT rfl rfl (hrb.mono kX) zaP.enc_len rfl hbn rfl)|(apply zab (hs:=(hPr.mono (by simp)));iterate 7 exact rfl)|(apply zab (hs:=(hWn.mono (by simp)));iterate 7 exact rfl)|(apply zad;(iterate 5 exact rfl);first|(apply zaq hT;exact rfl;exact rfl;exact mX;exact rfl;exact rfl))|(apply zas;iterate 2 exact rfl)|(apply zan;iterate 2 exact rfl)|(apply zal;exact rfl;all_goals(intro hb;(try dsimp only at hb);(try simp only[hb]);(first|replace hb:=odt hb|replace hb:=odf hb|replace hb:=zbc hb|replace hb:=zbd hb);(try omega))))
       all_goals first
        |(exfalso;omega)
        |(apply ret1;exact rfl;exact⟨zai g who id0 o outs (zae x s bks rows F),by(unfold zai zae;exact dX),zaZ.bad' (by decide) hf⟩)
        |skip
      ·rw[hwn]at hWn
       rw[if_neg (by decide)]
       have hwin:1≤m.f2∧m.f2≤1000:=zck hwn
       have hPut:=fun G=>zqM W G x.q x.quotes.A x.quotes.c s.quotes ⟨s.quote+1,a.id,who,m.f1,s.now+m.f2,true⟩ hlq hD.upq
       generalize hqq:(⟨s.quote+1,a.id,who,m.f1,s.now+m.f2,true⟩:zat)=q at*
       cases hbq:badQ q s.quotes
       ·have hv:putV q s.quotes=.tuple #[.int .i64 (oldQ q s.quotes),.int .i64 0]:=by unfold putV;rw[hbq];rfl
        rw[hv]at hPut
        rw[if_neg (by decide)]
        rw[show(if (false=true)then zbg s.due 3 (oldQ q s.quotes)else s.due)=s.due from rfl]
        have hAdd:=fun G=>zkA W G x.u x.due.A x.due.c s.due ⟨s.now+m.f2,3,s.quote+1⟩ hld hD.row.mono
        subst hqq
        generalize hqs:putQ ⟨s.quote+1,a.id,who,m.f1,s.now+m.f2,true⟩ s.quotes=qs at*
        generalize hds:addD s.due ⟨s.now+m.f2,3,s.quote+1⟩=ds at*
        generalize oldQ ⟨s.quote+1,a.id,who,m.f1,s.now+m.f2,true⟩ s.quotes=old at*
        refine zaf Tryz.func111 rfl rfl Tryz.results111 Tryz.ntmps111 rfl rfl ?_
        refine zaI hrb rfl (fun hAi=> ?_)
        have hA:=hAi (by omega)
        unfold zae
        unfold zai
        repeat' (first|apply zah|apply zaa|apply zak|apply zam|apply zaj|apply zag|apply zac hT;iterate 4 exact rfl|(apply zaM hT;(iterate 4 exact rfl);(iterate 2 (first|omega)))|apply zaC [78] [] hmix;decide+kernel|apply zaA;(iterate 5 exact rfl);intro g5|(apply zay hT;(iterate 5 exact rfl);first|(fail_if_success (have q:=g7));intro g7|(fail_if_success (have q:=g12));intro g12)|(apply zar hT;(iterate 6 exact rfl);exact sX;(iterate 3 exact rfl);exact nle rfl)|(apply zaE hT (cs:=Due.enc ⟨s.now+m.f2,3,s.quote+1⟩);iterate 4 exact rfl)|(apply zaE hT (cs:=zat.enc ⟨s.quote+1,a.id,who,m.f1,s.now+m.f2,true⟩);iterate 4 exact rfl)|(apply zaS hT;(iterate 9 exact rfl);(iterate 2 omega))|(apply zab (hs:=(hG.mono (zbp mX mX)));iterate 7 exact rfl)|(apply zdg;(iterate 5 exact rfl);omega)|(apply zcr;(iterate 6 exact rfl);rw[hbit])|(apply zaJ hT;(iterate 8 exact rfl);(iterate 2 omega);exact hA)|(apply zad;(iterate 5 exact rfl);first|exact zbx hT rfl rfl (hrb.mono kX) zaP.enc_len (za4 _ _ _) hbn (by decide) hhal|exact zaO hT rfl rfl (hrb.mono kX) zaP.enc_len rfl hbn rfl)|(apply zab (hs:=(hPr.mono (by simp)));iterate 7 exact rfl)|(apply zab (hs:=(hWn.mono (by simp)));iterate 7 exact rfl)|(apply zau (hs:=(zax.perm (hPut _) pX));(iterate 7 exact rfl);rintro _ _ ⟨rfl,A3,c3,rfl⟩)|(apply zau (hs:=(zax.perm (hAdd _) pX));(iterate 7 exact rfl);rintro _ _ ⟨rfl,A4,c4,rfl⟩)|(apply zaB (cs:=[.int .i64 a.id,.int .i64 (s.quote+1),.int .i64 m.f1,.int .i64 (s.now+m.f2)]) hT;(iterate 12 exact rfl);intro g151)|(apply zau (hs:=(zbY W _ g who (s.quote+1) o outs _ (some ⟨g151,0,none⟩) 4 a.client 23 [a.id,s.quote+1,m.f1,s.now+m.f2] pX mX (Nat.le_of_ble_eq_true rfl) hbo));(iterate 7 exact rfl);rintro _ _ ⟨rfl,o2,rfl⟩)|(apply zad;(iterate 5 exact rfl);first|(apply zaq hT;exact rfl;exact rfl;exact mX;exact rfl;exact rfl)|(apply zaF hT;exact rfl;exact rfl;exact mX;exact rfl))|(apply zan;iterate 2 exact rfl)|(apply zal;exact rfl;all_goals(intro hb;(try dsimp only at hb);(try simp only[hb]);(first|replace hb:=odt hb|replace hb:=odf hb|replace hb:=zbc hb|replace hb:=zbd hb);(try omega))))
        all_goals first
         |(exfalso;omega)
         |(apply ret1;exact rfl;exact⟨zai g who (s.quote+1) o2 (outs++[outM a.client 23 [a.id,s.quote+1,m.f1,s.now+m.f2]]) (zae (({x with quotes:=⟨A3,c3⟩,due:=⟨A4,c4⟩}:DAd).at x.d) {s with quotes:=qs,quote:=s.quote+1,due:=ds} bks rows F),by(unfold zai zae;exact dX),zaZ.ok' hf⟩)
         |skip
       ·have hv:putV q s.quotes=.tuple #[.int .i64 0,.int .i64 1]:=by unfold putV;rw[hbq];rfl
        have hsame:putQ q s.quotes=s.quotes:=by unfold putQ;rw[hbq];rfl
        rw[hv,hsame]at hPut
        rw[if_pos rfl]
        subst hqq
        refine zaf Tryz.func111 rfl rfl Tryz.results111 Tryz.ntmps111 rfl rfl ?_
        refine zaI hrb rfl (fun hAi=> ?_)
        have hA:=hAi (by omega)
        unfold zae
        unfold zai
        repeat' (first|apply zah|apply zaa|apply zak|apply zam|apply zaj|apply zag|apply zac hT;iterate 4 exact rfl|(apply zaM hT;(iterate 4 exact rfl);(iterate 2 (first|omega)))|apply zaC [78] [] hmix;decide+kernel|apply zaA;(iterate 5 exact rfl);intro g5|(apply zay hT;(iterate 5 exact rfl);first|(fail_if_success (have q:=g7));intro g7|(fail_if_success (have q:=g12));intro g12)|(apply zar hT;(iterate 6 exact rfl);exact sX;(iterate 3 exact rfl);exact nle rfl)|(apply zaE hT (cs:=zat.enc ⟨s.quote+1,a.id,who,m.f1,s.now+m.f2,true⟩);iterate 4 exact rfl)|(apply zaS hT;(iterate 9 exact rfl);(iterate 2 omega))|(apply zab (hs:=(hG.mono (zbp mX mX)));iterate 7 exact rfl)|(apply zdg;(iterate 5 exact rfl);omega)|(apply zcr;(iterate 6 exact rfl);rw[hbit])|(apply zaJ hT;(iterate 8 exact rfl);(iterate 2 omega);exact hA)|(apply zad;(iterate 5 exact rfl);first|exact zbx hT rfl rfl (hrb.mono kX) zaP.enc_len (za4 _ _ _) hbn (by decide) hhal|exact zaO hT rfl rfl (hrb.mono kX) zaP.enc_len rfl hbn rfl)|(apply zab (hs:=(hPr.mono (by simp)));iterate 7 exact rfl)|(apply zab (hs:=(hWn.mono (by simp)));iterate 7 exact rfl)|(apply zau (hs:=(zax.perm (hPut _) pX));(iterate 7 exact rfl);rintro _ _ ⟨rfl,A3,c3,rfl⟩)|(apply zad;(iterate 5 exact rfl);first|(apply zaq hT;exact rfl;exact rfl;exact mX;exact rfl;exact rfl)|(apply zaF hT;exact rfl;exact rfl;exact mX;exact rfl))|(apply zas;iterate 2 exact rfl)|(apply zan;iterate 2 exact rfl)|(apply zal;exact rfl;all_goals(intro hb;(try dsimp only at hb);(try simp only[hb]);(first|replace hb:=odt hb|replace hb:=odf hb|replace hb:=zbc hb|replace hb:=zbd hb);(try omega))))
        all_goals first
         |(exfalso;omega)
         |(apply ret1;exact rfl;exact⟨zai g who id0 o outs (zae ({x with quotes:=⟨A3,c3⟩}:DAd) s bks rows F),by(unfold zai zae;exact dX),⟨rfl,{x with quotes:=⟨A3,c3⟩},o,bks,rows,id0,outs,rfl,hf,fun h=>absurd h (by simp[bad])⟩⟩)
         |skip
    ·have hhal:(zaP.enc b)[6]? =some (.bool true):=by rw[←hh];rfl
     rw[if_pos rfl]
     refine zaf Tryz.func111 rfl rfl Tryz.results111 Tryz.ntmps111 rfl rfl ?_
     refine zaI hrb rfl (fun hAi=> ?_)
     have hA:=hAi (by omega)
     unfold zae
     unfold zai
     repeat' (first|apply zah|apply zaa|apply zak|apply zam|apply zaj|apply zag|apply zac hT;iterate 4 exact rfl|apply zaC [78] [] hmix;decide+kernel|apply zaA;(iterate 5 exact rfl);intro g5|(apply zay hT;(iterate 5 exact rfl);first|(fail_if_success (have q:=g7));intro g7)|(apply zar hT;(iterate 6 exact rfl);exact sX;(iterate 3 exact rfl);exact nle rfl)|(apply zaS hT;(iterate 9 exact rfl);(iterate 2 omega))|(apply zab (hs:=(hG.mono (zbp mX mX)));iterate 7 exact rfl)|(apply zdg;(iterate 5 exact rfl);omega)|(apply zcr;(iterate 6 exact rfl);rw[hbit])|(apply zaJ hT;(iterate 8 exact rfl);(iterate 2 omega);exact hA)|(apply zad;(iterate 5 exact rfl);first|exact zbx hT rfl rfl (hrb.mono kX) zaP.enc_len (za4 _ _ _) hbn (by decide) hhal)|(apply zad;(iterate 5 exact rfl);first|(apply zaq hT;exact rfl;exact rfl;exact mX;exact rfl;exact rfl))|(apply zas;iterate 2 exact rfl)|(apply zan;iterate 2 exact rfl)|(apply zal;exact rfl;all_goals(intro hb;(try dsimp only at hb);(try simp only[hb]);(first|replace hb:=odt hb|replace hb:=odf hb|replace hb:=zbc hb|replace hb:=zbd hb);(try omega))))
     all_goals first
      |(exfalso;omega)
      |(apply ret1;exact rfl;exact⟨zai g who id0 o outs (zae x s bks rows F),by(unfold zai zae;exact dX),zaZ.bad' (by decide) hf⟩)
      |skip
def hasI (id:Int)(q:zat):Bool:=q.id==id
def uqQ (r:List zat):Prop:=r.Pairwise fun a b=>a.id≠b.id
def zof (x:zat):zat:={x with live:=false}
def ze3 (id:Int)(l:List zat):List zat:=l.map fun x=>if hasI id x then zof x else x
theorem zmq {id:Int}{l:List zat}(h:l.find? (hasI id)=none):ze3 id l=l:=by
 unfold ze3
 rw[List.find?_eq_none]at h
 conv=>rhs;rw[←List.map_id l]
 exact List.map_congr_left (fun x hx=>by rw[if_neg (h x hx)];rfl)
theorem zmr {id:Int}{l:List zat}{i:Nat}{x:zat}(hu:uqQ l)(hx:l[i]? =some x)(hp:hasI id x=true):ze3 id l=l.set i (zof x):=by
 obtain⟨hlt,hxe⟩:=gsi.1 hx
 apply List.ext_getElem?
 intro j
 unfold ze3
 rw[List.getElem?_map]
 by_cases hij:i=j
 ·subst hij
  rw[hx,List.getElem?_set_self hlt];simp[hp]
 ·rw[List.getElem?_set_ne hij]
  cases hy:l[j]? with
  |none=>rfl
  |some y=>
   simp only[Option.map_some]
   obtain⟨hjl,hye⟩:=gsi.1 hy
   have hne:y.id≠x.id:=by
    rcases Nat.lt_or_gt_of_ne hij with h|h
    ·have:=List.pairwise_iff_getElem.1 hu i j hlt hjl h
     rw[hxe,hye]at this;exact fun e=>this e.symm
    ·have:=List.pairwise_iff_getElem.1 hu j i hjl hlt h
     rw[hxe,hye]at this;exact this
   have:hasI id y=false:=by
    simp only[hasI,beq_iff_eq]at hp ⊢
    simp;omega
   rw[this];rfl
def zrF (id dealer:Int)(l:List zat):Int:=match l.find? (hasI id)with
 |none=>4
 |some x=>if x.dealer=dealer then(if x.live then 0 else 12)else 5
end Go.Proofs.YteocfhdocpeokaaGreat
