/- The statements' walks, and what they stand on, joined into few texts: part 3. Conditions stand in each statement. -/
import Derived.Test.YteocfhdocpeokaaGreatBndU2
set_option maxHeartbeats 16000000
set_option linter.all false
set_option linter.unusedSimpArgs false
set_option linter.unusedVariables false
namespace Go.Proofs.YteocfhdocpeokaaGreat
open Go Go.Sl Go.RowKit
attribute [local irreducible] AW ES EP Ld RetQ
set_option maxRecDepth 100000
theorem zhi {P:Program}{W:World}{N:Nat}{env:Env}{h:List zah}{Q:Exit→Env→List zah→Prop}{c:Code}{A:Option Addr}{n cc k:Nat}{e:TypeId}{cs:List Value}(hm:zah.own A n cc e k cs∈h)
 (hc:OwnF A n cc k cs→AW P W N c env h Q):AW P W N c env h Q:=zbB fun w hw=>⟨h,hw,hc (hw.ownF hm)⟩
theorem ze0 {α:Type}{p:α→Prop}:∀(l:List α),(∀x∈l,p x)→∃ls:List {x // p x},ls.map Subtype.val=l
 |[],_=>⟨[],rfl⟩
 |x::l,h=>by
  obtain⟨ls,hl⟩:=ze0 l (fun y hy=>h y (List.mem_cons_of_mem _ hy))
  exact⟨⟨x,h x List.mem_cons_self⟩::ls,by simp[hl]⟩
theorem zhj {s:Int}{a b:zaF}(ha:a.side=s):(cfO a b<0)↔(if s=1 then a.price>b.price∨(a.price=b.price∧a.seq<b.seq)else if s=2 then a.price<b.price∨(a.price=b.price∧a.seq<b.seq)else a.seq<b.seq):=by
 unfold cfO zbC cmpI
 subst ha
 by_cases h1:a.side=1
 ·simp only[h1,if_true]
  simp
  split<;>(try split)<;>(try split)<;>(try split)<;>omega
 ·by_cases h2:a.side=2
  ·simp only[h2]
   simp
   split<;>(try split)<;>(try split)<;>(try split)<;>omega
  ·simp[h1,h2]
   split<;>(try split)<;>omega
abbrev OrdS (s:Int):={o:zaF // o.side=s}
instance instOrdS (s:Int):Inhabited (OrdS s):=⟨⟨⟨0,0,0,s,0,0⟩,rfl⟩⟩
def encS {s:Int}(x:OrdS s):List Value:=x.1.enc
def cfS {s:Int}(x y:OrdS s):Int:=cfO x.1 y.1
theorem ltS {s:Int}(x y:OrdS s):ltOf cfS x y=true↔(if s=1 then x.1.price>y.1.price∨(x.1.price=y.1.price∧x.1.seq<y.1.seq)else if s=2 then x.1.price<y.1.price∨(x.1.price=y.1.price∧x.1.seq<y.1.seq)else x.1.seq<y.1.seq):=by
 unfold ltOf
 rw[decide_eq_true_iff]
 exact zhj x.2
theorem swoS (s:Int):Sort.SWO (ltOf (cfS (s:=s))) where
 irrefl x:=by
  cases h:ltOf cfS x x
  ·rfl
  ·rw[ltS]at h;exfalso;split at h<;>(try split at h)<;>omega
 trans x y z h1 h2:=by
  rw[ltS]at*
  split<;>(try split)<;>simp_all<;>omega
 ntrans x y z h1 h2:=by
  cases h:ltOf cfS x z
  ·rfl
  ·exfalso
   have k1:¬ltOf cfS x y=true:=by rw[h1];simp
   have k2:¬ltOf cfS y z=true:=by rw[h2];simp
   rw[ltS]at h k1 k2
   split at h<;>(try split at h)<;>simp_all<;>omega
theorem zfW (W:World)(s:Int)(F:List zah)(A:Option Addr)(c:Nat)(l:List zaF)(hl:∀o∈l,o.side=s)(hb:l.length≤1000000):
 zaI Tryz.prog W 124 [.slice A l.length c,.func (.func 125) #[] #[]] (.own A l.length c 168 6 (l.flatMap zaF.enc)::F)
  (fun v h'=>v=.tuple #[]∧∃l':List zaF,l'.Perm l∧l'.Pairwise (fun a b=>¬cfO b a<0)∧h'=.own A l'.length c 168 6 (l'.flatMap zaF.enc)::F):=by
 obtain⟨ls,rfl⟩:=ze0 (p:=fun o=>o.side=s) l hl
 have e:∀m:List (OrdS s),(m.map Subtype.val).flatMap zaF.enc=m.flatMap encS:=fun m=>by rw[List.flatMap_map];rfl
 have hf:zfn Tryz.prog 124 :=⟨_,Tryz.func124,rfl,rfl⟩
 have eg:∀args w,(callFunc 125 args).run Tryz.prog w=.ok (.enter 125 args) w:=enters_of Tryz.func125 (by kernel_rfl) rfl
 have:=zhf (P:= Tryz.prog) (W:=W) (F:=F) (enc:=encS (s:=s)) (k:=6) zit hf Tryz.isAgg168 Tryz.sizeOf168 (fun x=>x.1.enc_len) (fun x=>x.1.enc_one) cfS (swoS s) 125 eg (fun x y W=>zhh x.1 y.1 W) A c 168 ls (by simpa using hb)
 rw[llm,e]
 refine zaI.mono this ?_
 rintro v h' ⟨rfl,l',hp,hs,rfl⟩
 refine⟨rfl,l'.map Subtype.val,hp.map _,?_,by rw[llm,e]⟩
 rw[List.pairwise_map]
 exact hs.imp (fun{a b} hab=>of_decide_eq_false hab)
theorem zfX (W:World)(h:List zah)(p:Nat)(A:Option Addr)(c:Nat)(l:List zaF)(s:Int)(m1:zah.blk p 152 [.slice A l.length c]∈h)(m2:zah.own A l.length c 168 6 (l.flatMap zaF.enc)∈h)(hb:l.length≤1000000)(hu:zcn l)(hv:∀o∈l,isB o.side=true):
 zaI Tryz.prog W 82 [.pointer (some ⟨p,0,none⟩),.int .i64 s] h
  (fun v h'=>∃A' c',v=.slice A' (zbq s l).length c'∧h'=.own A' (zbq s l).length c' 168 6 ((zbq s l).flatMap zaF.enc)::h∧OwnF A' (zbq s l).length c' 6 ((zbq s l).flatMap zaF.enc)):=by
 refine zaI.dropF ?_
 refine zau Tryz.func82 rfl rfl Tryz.results82 Tryz.ntmps82 rfl rfl ?_
 refine zgO m2 (fun hl hnc hcc hsome hnone hone=> ?_)
 have hr:zaE W h A l.length 6 (l.flatMap zaF.enc):=zaE.own m2 hl hone
 repeat' (first
  |apply zaA|apply zaa|apply zaz|apply zam|apply zan|apply zae|apply zay
  |(apply zaj hT;(iterate 4 exact rfl))|(apply zak;(iterate 3 exact rfl))|(apply zad;(iterate 2 exact rfl))
  |(apply zax hT;(iterate 4 exact rfl);(iterate 2 omega))
  |(apply zas [] [] hmix;decide+kernel)
  |(apply zab;(iterate 5 exact rfl);first|exact zat hT rfl rfl mem0 rfl rfl|exact zar hT rfl rfl mem0 rfl)
  |(apply zab;(iterate 5 exact rfl);first|exact zat hT rfl rfl mem1 rfl rfl|exact zar hT rfl rfl mem1 rfl)
  |(apply zab;(iterate 5 exact rfl);first|exact zat hT rfl rfl mem2 rfl rfl|exact zar hT rfl rfl mem2 rfl)
  |(apply zab;(iterate 5 exact rfl);first|exact zat hT rfl rfl m1 rfl rfl|exact zar hT rfl rfl m1 rfl)
  |(apply zab;(iterate 5 exact rfl);first|exact zat hT rfl rfl (List.mem_cons_of_mem _ m1) rfl rfl|exact zar hT rfl rfl (List.mem_cons_of_mem _ m1) rfl)
  |(apply zav;(iterate 5 exact rfl);intro _)|(apply zac hT;(iterate 5 exact rfl);intro _)
  |(apply zaf;(iterate 2 exact rfl))|(apply zag;(iterate 2 exact rfl))
  |(apply zal;exact rfl;all_goals intro hb;all_goals(try simp only[hb]);all_goals(first|replace hb:=of_decide_eq_true hb|replace hb:=of_decide_eq_false hb|replace hb:=zap hb|replace hb:=zaq hb|skip);all_goals(try(exfalso;omega)))
  |(apply zao;exact rfl;all_goals intro hb;all_goals(try simp only[hb]);all_goals(first|replace hb:=of_decide_eq_true hb|replace hb:=of_decide_eq_false hb|replace hb:=zap hb|replace hb:=zaq hb|skip);all_goals(try(exfalso;omega))))
 refine zbB (fun w hw=>⟨_,hw.own_nil 168 6,?_⟩)
 have hml:∀k,((l.take k).filter (za6 s)).length≤k:=fun k=>by
  have:=List.length_filter_le (za6 s) (l.take k);simp at this;omega
 refine zcc (α:=Nat×Option Addr×Nat) (E:=fun x=>[(1,.int .i64 s),(5,.slice x.2.1 ((l.take x.1).filter (za6 s)).length x.2.2),(13,.slice A l.length c),(14,.int .i64 l.length),(15,.int .i64 x.1)])
  (H:=fun x=>.own x.2.1 ((l.take x.1).filter (za6 s)).length x.2.2 168 6 (((l.take x.1).filter (za6 s)).flatMap zaF.enc)::h) (μ:=fun x=>l.length - x.1)
  (S:=fun x=>x.1≤l.length) (0,none,0) (J:=[]) (Nat.zero_le _) ⟨rfl,rfl,rfl,rfl,rfl,trivial⟩ (plr _) ?_
 rintro⟨k,A5,c5⟩ hk
 dsimp only at hk ⊢
 have hmk:=hml k
 by_cases hlt:k<l.length
 ·obtain⟨x,hx⟩:∃x,l[k]? =some x:=⟨l[k]'(by omega),gge (by omega)⟩
  have hx2:l[(k:Int).toNat]? =some x:=by simpa using hx
  obtain⟨g,hA⟩:=hsome (by omega)
  have hA2:A.isSome=true:=by rw[hA];rfl
  have hd1:decide ((k:Int)<(l.length:Int))=true:=by simp;omega
  have hrc:=fun X=>hr.cons (c:=X)
  cases hlv:za6 s x
  ·have hne:¬x.side=s:=by simpa [za6]using hlv
   have hs1:(l.take (k+1)).filter (za6 s)=(l.take k).filter (za6 s):=by
    rw[List.take_add_one,hx,List.filter_append];simp[hlv]
   repeat' (first
    |apply zaA|apply zaa|apply zaz|apply zam|apply zan|apply zae|apply zay
    |(apply zaj hT;(iterate 4 exact rfl))|(apply zak;(iterate 3 exact rfl))|(apply zad;(iterate 2 exact rfl))
    |(apply zax hT;(iterate 4 exact rfl);(iterate 2 omega))
    |(apply zas [] [] hmix;decide+kernel)
    |(apply za4 hT;(iterate 8 exact rfl);(iterate 2 omega);exact hA2)
    |(apply zab;(iterate 5 exact rfl);exact zbd hT rfl rfl (hrc _) zaF.enc_len rfl hx2 rfl)
    |(apply zac hT;(iterate 5 exact rfl);intro g7)
    |(apply zaQ hT;(iterate 6 exact rfl);exact sel0;(iterate 3 exact rfl);exact Nat.le_of_ble_eq_true rfl)
    |(apply zab;(iterate 5 exact rfl);first|exact zat hT rfl rfl mem0 rfl rfl|exact zar hT rfl rfl mem0 rfl)
    |(apply zab;(iterate 5 exact rfl);first|exact zat hT rfl rfl mem1 rfl rfl|exact zar hT rfl rfl mem1 rfl)
    |(apply zab;(iterate 5 exact rfl);first|exact zat hT rfl rfl mem2 rfl rfl|exact zar hT rfl rfl mem2 rfl)
    |(apply zav;(iterate 5 exact rfl);intro _)|(apply zac hT;(iterate 5 exact rfl);intro _)
    |(apply zaf;(iterate 2 exact rfl))|(apply zag;(iterate 2 exact rfl))
    |(apply zal;exact rfl;all_goals intro hb;all_goals(try simp only[hb]);all_goals(first|replace hb:=of_decide_eq_true hb|replace hb:=of_decide_eq_false hb|replace hb:=zap hb|replace hb:=zaq hb|skip);all_goals(try(exfalso;omega)))
    |(apply zao;exact rfl;all_goals intro hb;all_goals(try simp only[hb]);all_goals(first|replace hb:=of_decide_eq_true hb|replace hb:=of_decide_eq_false hb|replace hb:=zap hb|replace hb:=zaq hb|skip);all_goals(try(exfalso;omega))))
   all_goals first
    |(exfalso;omega)
    |(refine zaO (k+1,A5,c5) (by dsimp only;omega) (by dsimp only;omega) ⟨rfl,by dsimp only;rw[hs1];rfl,rfl,rfl,rfl,trivial⟩ ?_
      dsimp only
      rw[hs1]
      exact zbt zbi)
  ·have hne:x.side=s:=by simpa [za6]using hlv
   have hs1:(l.take (k+1)).filter (za6 s)=(l.take k).filter (za6 s)++[x]:=by
    rw[List.take_add_one,hx,List.filter_append];simp[hlv]
   repeat' (first
    |apply zaA|apply zaa|apply zaz|apply zam|apply zan|apply zae|apply zay
    |(apply zaj hT;(iterate 4 exact rfl))|(apply zak;(iterate 3 exact rfl))|(apply zad;(iterate 2 exact rfl))
    |(apply zax hT;(iterate 4 exact rfl);(iterate 2 omega))
    |(apply zas [] [] hmix;decide+kernel)
    |(apply za4 hT;(iterate 8 exact rfl);(iterate 2 omega);exact hA2)
    |(apply zab;(iterate 5 exact rfl);exact zbd hT rfl rfl (hrc _) zaF.enc_len rfl hx2 rfl)
    |(apply zac hT;(iterate 5 exact rfl);intro g7)
    |(apply zaQ hT;(iterate 6 exact rfl);exact sel0;(iterate 3 exact rfl);exact Nat.le_of_ble_eq_true rfl)
    |(apply zaP hT;(iterate 12 exact rfl);intro g)
    |(apply zbe hT;(iterate 10 exact rfl);(first|exact sel0|exact sel1|exact selS sel1|exact selS (selS sel1)|exact selS (selS (selS sel1))|exact selS (selS (selS (selS sel1)))|exact selS (selS (selS (selS (selS sel1))))|exact selS (selS (selS (selS (selS (selS sel1))))));exact zaE.own mem0 rfl (zaF.enc_one x);omega;(show(_:Nat)*48≤_;omega);intro A' c')
    |(apply zab;(iterate 5 exact rfl);first|exact zat hT rfl rfl mem0 rfl rfl|exact zar hT rfl rfl mem0 rfl)
    |(apply zab;(iterate 5 exact rfl);first|exact zat hT rfl rfl mem1 rfl rfl|exact zar hT rfl rfl mem1 rfl)
    |(apply zab;(iterate 5 exact rfl);first|exact zat hT rfl rfl mem2 rfl rfl|exact zar hT rfl rfl mem2 rfl)
    |(apply zav;(iterate 5 exact rfl);intro _)|(apply zac hT;(iterate 5 exact rfl);intro _)
    |(apply zaf;(iterate 2 exact rfl))|(apply zag;(iterate 2 exact rfl))
    |(apply zal;exact rfl;all_goals intro hb;all_goals(try simp only[hb]);all_goals(first|replace hb:=of_decide_eq_true hb|replace hb:=of_decide_eq_false hb|replace hb:=zap hb|replace hb:=zaq hb|skip);all_goals(try(exfalso;omega)))
    |(apply zao;exact rfl;all_goals intro hb;all_goals(try simp only[hb]);all_goals(first|replace hb:=of_decide_eq_true hb|replace hb:=of_decide_eq_false hb|replace hb:=zap hb|replace hb:=zaq hb|skip);all_goals(try(exfalso;omega))))
   all_goals first
    |(exfalso;omega)
    |(refine zaO (k+1,A',c') (by dsimp only;omega) (by dsimp only;omega) ⟨rfl,by dsimp only;rw[hs1,lla];rfl,rfl,rfl,rfl,trivial⟩ ?_
      dsimp only
      rw[hs1,lla,List.flatMap_append]
      apply za7;(first|exact sel0|exact sel1|exact selS sel1|exact selS (selS sel1)|exact selS (selS (selS sel1))|exact selS (selS (selS (selS sel1)))|exact selS (selS (selS (selS (selS sel1))))|exact selS (selS (selS (selS (selS (selS sel1))))))
      exact dX)
 ·obtain rfl:k=l.length:=by omega
  have hd1:decide ((l.length:Int)<(l.length:Int))=false:=by simp
  rw[List.take_length]at hmk ⊢
  have hside:∀o∈l.filter (za6 s),o.side=s:=fun o ho=>by simpa [za6]using (List.mem_filter.1 ho).2
  have hsort:=fun A5 c5=>zfW W s h A5 c5 (l.filter (za6 s)) hside (by omega)
  have hfin:∀m:List zaF,m.Perm (l.filter (za6 s))→m.Pairwise (fun a b=>¬cfO b a<0)→m=zbq s l:=fun m hp hs=>zeA hu hv hp hs
  have hlen:(zbq s l).length=(l.filter (za6 s)).length:=(zb0 s l).length_eq
  repeat' (first
   |apply zaA|apply zaa|apply zaz|apply zam|apply zan|apply zae|apply zay
   |(apply zaj hT;(iterate 4 exact rfl))|(apply zak;(iterate 3 exact rfl))|(apply zad;(iterate 2 exact rfl))
   |(apply zax hT;(iterate 4 exact rfl);(iterate 2 omega))
   |(apply zas [] [] hmix;decide+kernel)
   |(apply zf4 (hs:=(hsort _ _));(iterate 6 exact rfl);(rintro _ _ ⟨rfl,m,hp,hs,rfl⟩;obtain rfl:=hfin m hp hs))
   |(apply zaN (hs:=(hsort _ _));(iterate 7 exact rfl);(rintro _ _ ⟨rfl,m,hp,hs,rfl⟩;obtain rfl:=hfin m hp hs))
   |(apply zab;(iterate 5 exact rfl);first|exact zat hT rfl rfl mem0 rfl rfl|exact zar hT rfl rfl mem0 rfl)
   |(apply zab;(iterate 5 exact rfl);first|exact zat hT rfl rfl mem1 rfl rfl|exact zar hT rfl rfl mem1 rfl)
   |(apply zab;(iterate 5 exact rfl);first|exact zat hT rfl rfl mem2 rfl rfl|exact zar hT rfl rfl mem2 rfl)
   |(apply zav;(iterate 5 exact rfl);intro _)|(apply zac hT;(iterate 5 exact rfl);intro _)
   |(apply zaf;(iterate 2 exact rfl))|(apply zag;(iterate 2 exact rfl))
   |(apply zal;exact rfl;all_goals intro hb;all_goals(try simp only[hb]);all_goals(first|replace hb:=of_decide_eq_true hb|replace hb:=of_decide_eq_false hb|replace hb:=zap hb|replace hb:=zaq hb|skip);all_goals(try(exfalso;omega)))
   |(apply zao;exact rfl;all_goals intro hb;all_goals(try simp only[hb]);all_goals(first|replace hb:=of_decide_eq_true hb|replace hb:=of_decide_eq_false hb|replace hb:=zap hb|replace hb:=zaq hb|skip);all_goals(try(exfalso;omega))))
  apply ret1;exact rfl
  refine⟨_,zbi,fun w hw=>⟨A5,c5,by rw[hlen],rfl,hw.ownF mem0⟩⟩
/-! ### levels -/
theorem zfg {o:List zaF}(ho:∀x∈o,1≤x.left∧x.left≤1000000)(hb:o.length≤1000000):∀v∈zaV o,1≤v.qty∧v.qty≤1000000*o.length:=by
 have key:∀(o:List zaF) (v:List Lvl) (n:Nat),(∀x∈o,1≤x.left∧x.left≤1000000)→(∀y∈v,1≤y.qty∧y.qty≤1000000*(n:Int))→∀y∈o.foldl zb1 v,1≤y.qty∧y.qty≤1000000*((n+o.length:Nat):Int):=by
  intro o
  induction o with
  |nil=>intro v n _ hv y hy;simpa using hv y hy
  |cons x o ih=>
   intro v n ho hv y hy
   rw[List.foldl_cons]at hy
   have hx:=ho x List.mem_cons_self
   have:=ih (zb1 v x) (n+1) (fun z hz=>ho z (List.mem_cons_of_mem _ hz)) (fun z hz=> ?_) y hy
   ·rw[List.length_cons]
    have e:((n+1+o.length:Nat):Int)=((n+(o.length+1):Nat):Int):=by omega
    rw[e]at this;exact this
   ·unfold zb1 at hz
    have hmono:∀y∈v,1≤y.qty∧y.qty≤1000000*((n+1:Nat):Int):=fun y hy=>by have:=hv y hy;omega
    split at hz
    ·rename_i w hw
     have hwv:w∈v:=List.mem_of_getLast? hw
     split at hz
     ·rcases lma.1 hz with h|h
      ·exact hmono z ((List.dropLast_sublist v).subset h)
      ·rw[lms.1 h];have:=hv w hwv;dsimp only;omega
     ·rcases lma.1 hz with h|h
      ·exact hmono z h
      ·rw[lms.1 h];dsimp only;omega
    ·rw[lms.1 hz];dsimp only;omega
 intro v hv
 have:=key o [] 0 ho (fun y hy=>by cases hy) v hv
 simpa using this
theorem zfh {v:List Lvl}{x:Lvl}{o:zaF}(h:v[v.length - 1]? =some x)(hp:x.price=o.price):zb1 v o=v.set (v.length - 1) ⟨x.price,x.qty+o.left⟩:=by
 have hl:v.getLast? =some x:=by rw[List.getLast?_eq_getElem?];exact h
 unfold zb1
 rw[hl]
 dsimp only
 rw[if_pos hp]
 have hne:v≠[]:=fun e=>by rw[e]at h;simp at h
 obtain⟨u,y,rfl⟩:=List.eq_nil_or_concat v |>.resolve_left hne
 simp
theorem zeg {v:List Lvl}{o:zaF}(h:∀x,v[v.length - 1]? =some x→x.price≠o.price):zb1 v o=v++[⟨o.price,o.left⟩]:=by
 unfold zb1
 split
 ·rename_i x hx
  rw[List.getLast?_eq_getElem?]at hx
  rw[if_neg (h x hx)]
 ·rename_i hx
  rw[List.getLast?_eq_none_iff]at hx
  rw[hx];rfl
theorem zc8 (W:World)(h:List zah)(p:Nat)(A:Option Addr)(c:Nat)(l:List zaF)(s:Int)(m1:zah.blk p 152 [.slice A l.length c]∈h)(m2:zah.own A l.length c 168 6 (l.flatMap zaF.enc)∈h)(hb:l.length≤1000000)(hu:zcn l)(hv:∀o∈l,isB o.side=true)(hq:∀o∈l,1≤o.left∧o.left≤1000000):
 zaI Tryz.prog W 70 [.pointer (some ⟨p,0,none⟩),.int .i64 s] h
  (fun v h'=>∃A' c',v=.slice A' (zaV (zbq s l)).length c'∧h'=.own A' (zaV (zbq s l)).length c' 134 2 ((zaV (zbq s l)).flatMap Lvl.enc)::h∧OwnF A' (zaV (zbq s l)).length c' 2 ((zaV (zbq s l)).flatMap Lvl.enc)):=by
 refine zaI.dropF ?_
 refine zau Tryz.func70 rfl rfl Tryz.results70 Tryz.ntmps70 rfl rfl ?_
 have hside:=zfX W h p A c l s m1 m2 hb hu hv
 have hsl:=zfR s l
 have hsq:∀o∈zbq s l,1≤o.left∧o.left≤1000000:=fun o ho=>hq o (zdu ho).1
 generalize zbq s l=sl at hside hsl hsq
 repeat' (first
  |apply zaA|apply zaa|apply zaz|apply zam|apply zan|apply zae|apply zay
  |(apply zaj hT;(iterate 4 exact rfl))|(apply zak;(iterate 3 exact rfl))|(apply zad;(iterate 2 exact rfl))
  |(apply zax hT;(iterate 4 exact rfl);(iterate 2 omega))
  |(apply zas [] [] hmix;decide+kernel)
  |(apply zaN (hs:=hside);(iterate 7 exact rfl);rintro _ _ ⟨AS,cS,rfl,rfl,hfS⟩)
  |(apply zab;(iterate 5 exact rfl);first|exact zat hT rfl rfl mem0 rfl rfl|exact zar hT rfl rfl mem0 rfl)
  |(apply zab;(iterate 5 exact rfl);first|exact zat hT rfl rfl mem1 rfl rfl|exact zar hT rfl rfl mem1 rfl)
  |(apply zab;(iterate 5 exact rfl);first|exact zat hT rfl rfl mem2 rfl rfl|exact zar hT rfl rfl mem2 rfl)
  |(apply zav;(iterate 5 exact rfl);intro _)|(apply zac hT;(iterate 5 exact rfl);intro _)
  |(apply zaf;(iterate 2 exact rfl))|(apply zag;(iterate 2 exact rfl))
  |(apply zal;exact rfl;all_goals intro hb;all_goals(try simp only[hb]);all_goals(first|replace hb:=of_decide_eq_true hb|replace hb:=of_decide_eq_false hb|replace hb:=zap hb|replace hb:=zaq hb|skip);all_goals(try(exfalso;omega)))
  |(apply zao;exact rfl;all_goals intro hb;all_goals(try simp only[hb]);all_goals(first|replace hb:=of_decide_eq_true hb|replace hb:=of_decide_eq_false hb|replace hb:=zap hb|replace hb:=zaq hb|skip);all_goals(try(exfalso;omega))))
 refine zbB (fun w hw=>⟨_,hw.own_nil 134 2,?_⟩)
 have hll:∀k,k≤sl.length→(zaV (sl.take k)).length≤k:=by
  intro k
  induction k with
  |zero=>intro _;simp[zaV]
  |succ k ih=>
   intro hk
   obtain⟨x,hx⟩:∃x,sl[k]? =some x:=⟨sl[k]'(by omega),gge (by omega)⟩
   rw[List.take_add_one,hx]
   have:=zfS (zaV (sl.take k)) x
   have:=ih (by omega)
   rw[show(some x).toList=[x]from rfl,zc7];omega
 refine zcc (α:=Nat×Option Addr×Nat) (E:=fun x=>[(5,.slice x.2.1 (zaV (sl.take x.1)).length x.2.2),(11,.slice AS sl.length cS),(12,.int .i64 sl.length),(13,.int .i64 x.1)])
  (H:=fun x=>.own x.2.1 (zaV (sl.take x.1)).length x.2.2 134 2 ((zaV (sl.take x.1)).flatMap Lvl.enc)::.own AS sl.length cS 168 6 (sl.flatMap zaF.enc)::h) (μ:=fun x=>sl.length - x.1)
  (S:=fun x=>x.1≤sl.length) (0,none,0) (J:=[]) (Nat.zero_le _) ⟨rfl,rfl,rfl,rfl,trivial⟩ (plr _) ?_
 rintro⟨k,A5,c5⟩ hk
 dsimp only at hk ⊢
 refine zhi mem0 (fun hf5=> ?_)
 have hmk:=hll k hk
 by_cases hlt:k<sl.length
 ·obtain⟨x,hx⟩:∃x,sl[k]? =some x:=⟨sl[k]'(by omega),gge (by omega)⟩
  have hx2:sl[(k:Int).toNat]? =some x:=by simpa using hx
  have hA:=hfS.some_ (by omega)
  have hd1:decide ((k:Int)<(sl.length:Int))=true:=by simp;omega
  have hstep:zaV (sl.take (k+1))=zb1 (zaV (sl.take k)) x:=by
   rw[List.take_add_one,hx,show(some x).toList=[x]from rfl,zc7]
  have hqx:=hsq x (mog hx)
  have hqv:=zfg (o:=sl.take k) (fun o ho=>hsq o (List.mem_of_mem_take ho)) (by simp;omega)
  have htl:((sl.take k).length:Int)≤1000000:=by simp;omega
  generalize hvl:zaV (sl.take k)=v at hf5 hmk hstep hqv ⊢
  by_cases h0:v.length=0
  ·have hv0:v=[]:=List.eq_nil_of_length_eq_zero h0
   have hadd:zb1 v x=v++[⟨x.price,x.left⟩]:=zeg (fun y hy=>by rw[hv0]at hy;simp at hy)
   have hd2:decide (((v.length:Nat):Int)>0)=false:=by simp;omega
   repeat' (first
    |apply zaA|apply zaa|apply zaz|apply zam|apply zan|apply zae|apply zay
    |(apply zaj hT;(iterate 4 exact rfl))|(apply zak;(iterate 3 exact rfl))|(apply zad;(iterate 2 exact rfl))
    |(apply zax hT;(iterate 4 exact rfl);(iterate 2 omega))
    |(apply zas [] [] hmix;decide+kernel)
    |(apply za4 hT;(iterate 8 exact rfl);(iterate 2 omega);exact hA)
    |(apply zab;(iterate 5 exact rfl);exact zbd hT rfl rfl (hfS.reads mem1) zaF.enc_len rfl hx2 rfl)
    |(apply zac hT;(iterate 5 exact rfl);intro g7)
    |(apply zaQ hT;(iterate 6 exact rfl);exact sel0;(iterate 3 exact rfl);exact Nat.le_of_ble_eq_true rfl)
    |(apply zbI hT;(iterate 4 exact rfl))
    |(apply zaP hT;(iterate 12 exact rfl);intro g)
    |(apply zbe hT;(iterate 10 exact rfl);(first|exact sel0|exact sel1|exact selS sel1|exact selS (selS sel1)|exact selS (selS (selS sel1))|exact selS (selS (selS (selS sel1)))|exact selS (selS (selS (selS (selS sel1))))|exact selS (selS (selS (selS (selS (selS sel1))))));exact zaE.own mem0 rfl (Lvl.enc_one ⟨x.price,x.left⟩);omega;(show(_:Nat)*16≤_;omega);intro A' c')
    |(apply zab;(iterate 5 exact rfl);first|exact zat hT rfl rfl mem0 rfl rfl|exact zar hT rfl rfl mem0 rfl)
    |(apply zab;(iterate 5 exact rfl);first|exact zat hT rfl rfl mem1 rfl rfl|exact zar hT rfl rfl mem1 rfl)
    |(apply zab;(iterate 5 exact rfl);first|exact zat hT rfl rfl mem2 rfl rfl|exact zar hT rfl rfl mem2 rfl)
    |(apply zab;(iterate 5 exact rfl);first|exact zat hT rfl rfl mem0 rfl rfl|exact zar hT rfl rfl mem0 rfl)
    |(apply zab;(iterate 5 exact rfl);first|exact zat hT rfl rfl (List.mem_cons_of_mem _ mem0) rfl rfl|exact zar hT rfl rfl (List.mem_cons_of_mem _ mem0) rfl)
    |(apply zab;(iterate 5 exact rfl);first|exact zat hT rfl rfl mem1 rfl rfl|exact zar hT rfl rfl mem1 rfl)
    |(apply zab;(iterate 5 exact rfl);first|exact zat hT rfl rfl (List.mem_cons_of_mem _ mem1) rfl rfl|exact zar hT rfl rfl (List.mem_cons_of_mem _ mem1) rfl)
    |(apply zav;(iterate 5 exact rfl);intro _)|(apply zac hT;(iterate 5 exact rfl);intro _)
    |(apply zaf;(iterate 2 exact rfl))|(apply zag;(iterate 2 exact rfl))
    |(apply zal;exact rfl;all_goals intro hb;all_goals(try simp only[hb]);all_goals(first|replace hb:=of_decide_eq_true hb|replace hb:=of_decide_eq_false hb|replace hb:=zap hb|replace hb:=zaq hb|skip);all_goals(try(exfalso;omega)))
    |(apply zao;exact rfl;all_goals intro hb;all_goals(try simp only[hb]);all_goals(first|replace hb:=of_decide_eq_true hb|replace hb:=of_decide_eq_false hb|replace hb:=zap hb|replace hb:=zaq hb|skip);all_goals(try(exfalso;omega))))
   all_goals first
    |(exfalso;omega)
    |(refine zaO (k+1,A',c') (by dsimp only;omega) (by dsimp only;omega) ⟨by dsimp only;rw[hstep,hadd,lla];rfl,rfl,rfl,rfl,trivial⟩ ?_
      dsimp only
      rw[hstep,hadd,lla,List.flatMap_append]
      apply za7;(first|exact sel0|exact sel1|exact selS sel1|exact selS (selS sel1)|exact selS (selS (selS sel1))|exact selS (selS (selS (selS sel1)))|exact selS (selS (selS (selS (selS sel1))))|exact selS (selS (selS (selS (selS (selS sel1))))))
      apply za7;(first|exact sel0|exact sel1|exact selS sel1|exact selS (selS sel1)|exact selS (selS (selS sel1))|exact selS (selS (selS (selS sel1)))|exact selS (selS (selS (selS (selS sel1))))|exact selS (selS (selS (selS (selS (selS sel1))))))
      exact dX)
    |(exfalso;simp_all;done)
  ·obtain⟨y,hy⟩:∃y,v[v.length - 1]? =some y:=⟨v[v.length - 1]'(by omega),gge (by omega)⟩
   have hy2:v[((v.length:Int) - 1).toNat]? =some y:=by rw[show((v.length:Int) - 1).toNat=v.length - 1 by omega];exact hy
   have hA5:=hf5.some_ (by omega)
   have hd2:decide (((v.length:Nat):Int)>0)=true:=by simp;omega
   have hqy:=hqv y (mog hy)
   by_cases hpp:y.price=x.price
   ·have hadd:=zfh (o:=x) hy hpp
    have hlay:lay (v.flatMap Lvl.enc) (((v.length:Int) - 1).toNat*2+1) [.int .i64 (y.qty+x.left)]=(zb1 v x).flatMap Lvl.enc:=by
     rw[hadd,show((v.length:Int) - 1).toNat=v.length - 1 by omega,zeL Lvl.enc_len (x':=⟨y.price,y.qty+x.left⟩) hy (Nat.le_of_ble_eq_true rfl) rfl]
    have hlen:(zb1 v x).length=v.length:=by rw[hadd];simp
    repeat' (first
     |apply zaA|apply zaa|apply zaz|apply zam|apply zan|apply zae|apply zay
     |(apply zaj hT;(iterate 4 exact rfl))|(apply zak;(iterate 3 exact rfl))|(apply zad;(iterate 2 exact rfl))
     |(apply zax hT;(iterate 4 exact rfl);(iterate 2 omega))
     |(apply zas [] [] hmix;decide+kernel)
     |(apply za4 hT;(iterate 8 exact rfl);(iterate 2 omega);first|exact hA|exact hA5)
     |(apply zab;(iterate 5 exact rfl);first|exact zbd hT rfl rfl (hfS.reads mem1) zaF.enc_len rfl hx2 rfl|exact zeH hT rfl rfl (hf5.reads mem1) Lvl.enc_len (zcs _ _ _) hy2 (by decide) rfl)
     |(apply zac hT;(iterate 5 exact rfl);intro g7)
     |(apply zaQ hT;(iterate 6 exact rfl);exact sel0;(iterate 3 exact rfl);exact Nat.le_of_ble_eq_true rfl)
     |(apply zbs hT;(iterate 6 exact rfl);(first|exact sel0|exact sel1|exact selS sel1|exact selS (selS sel1)|exact selS (selS (selS sel1))|exact selS (selS (selS (selS sel1)))|exact selS (selS (selS (selS (selS sel1))))|exact selS (selS (selS (selS (selS (selS sel1))))));exact zcs _ _ _;exact rfl;exact rfl;(show(((v.length:Int) - 1).toNat*2+1)+1≤v.length*2;omega);omega)
     |(apply zab;(iterate 5 exact rfl);first|exact zat hT rfl rfl mem0 rfl rfl|exact zar hT rfl rfl mem0 rfl)
     |(apply zab;(iterate 5 exact rfl);first|exact zat hT rfl rfl mem1 rfl rfl|exact zar hT rfl rfl mem1 rfl)
     |(apply zab;(iterate 5 exact rfl);first|exact zat hT rfl rfl mem2 rfl rfl|exact zar hT rfl rfl mem2 rfl)
     |(apply zab;(iterate 5 exact rfl);first|exact zat hT rfl rfl mem0 rfl rfl|exact zar hT rfl rfl mem0 rfl)
     |(apply zab;(iterate 5 exact rfl);first|exact zat hT rfl rfl (List.mem_cons_of_mem _ mem0) rfl rfl|exact zar hT rfl rfl (List.mem_cons_of_mem _ mem0) rfl)
     |(apply zab;(iterate 5 exact rfl);first|exact zat hT rfl rfl mem1 rfl rfl|exact zar hT rfl rfl mem1 rfl)
     |(apply zab;(iterate 5 exact rfl);first|exact zat hT rfl rfl (List.mem_cons_of_mem _ mem1) rfl rfl|exact zar hT rfl rfl (List.mem_cons_of_mem _ mem1) rfl)
     |(apply zav;(iterate 5 exact rfl);intro _)|(apply zac hT;(iterate 5 exact rfl);intro _)
     |(apply zaf;(iterate 2 exact rfl))|(apply zag;(iterate 2 exact rfl))
     |(apply zal;exact rfl;all_goals intro hb;all_goals(try simp only[hb]);all_goals(first|replace hb:=of_decide_eq_true hb|replace hb:=of_decide_eq_false hb|replace hb:=zap hb|replace hb:=zaq hb|skip);all_goals(try(exfalso;omega)))
     |(apply zao;exact rfl;all_goals intro hb;all_goals(try simp only[hb]);all_goals(first|replace hb:=of_decide_eq_true hb|replace hb:=of_decide_eq_false hb|replace hb:=zap hb|replace hb:=zaq hb|skip);all_goals(try(exfalso;omega))))
    all_goals first
     |(exfalso;omega)
     |(refine zaO (k+1,A5,c5) (by dsimp only;omega) (by dsimp only;omega) ⟨by dsimp only;rw[hstep,hlen];rfl,rfl,rfl,rfl,trivial⟩ ?_
       dsimp only
       rw[hstep,hlen,←hlay]
       apply za7;(first|exact sel0|exact sel1|exact selS sel1|exact selS (selS sel1)|exact selS (selS (selS sel1))|exact selS (selS (selS (selS sel1)))|exact selS (selS (selS (selS (selS sel1))))|exact selS (selS (selS (selS (selS (selS sel1))))))
       apply za7;(first|exact sel0|exact sel1|exact selS sel1|exact selS (selS sel1)|exact selS (selS (selS sel1))|exact selS (selS (selS (selS sel1)))|exact selS (selS (selS (selS (selS sel1))))|exact selS (selS (selS (selS (selS (selS sel1))))))
       exact dX)
     |(exfalso;simp_all;done)
   ·have hadd:zb1 v x=v++[⟨x.price,x.left⟩]:=zeg (fun z hz=>by rw[hy]at hz;cases hz;exact hpp)
    repeat' (first
     |apply zaA|apply zaa|apply zaz|apply zam|apply zan|apply zae|apply zay
     |(apply zaj hT;(iterate 4 exact rfl))|(apply zak;(iterate 3 exact rfl))|(apply zad;(iterate 2 exact rfl))
     |(apply zax hT;(iterate 4 exact rfl);(iterate 2 omega))
     |(apply zas [] [] hmix;decide+kernel)
     |(apply za4 hT;(iterate 8 exact rfl);(iterate 2 omega);first|exact hA|exact hA5)
     |(apply zab;(iterate 5 exact rfl);first|exact zbd hT rfl rfl (hfS.reads mem1) zaF.enc_len rfl hx2 rfl|exact zeH hT rfl rfl (hf5.reads mem1) Lvl.enc_len (zcs _ _ _) hy2 (by decide) rfl)
     |(apply zac hT;(iterate 5 exact rfl);intro g7)
     |(apply zaQ hT;(iterate 6 exact rfl);exact sel0;(iterate 3 exact rfl);exact Nat.le_of_ble_eq_true rfl)
     |(apply zbI hT;(iterate 4 exact rfl))
     |(apply zaP hT;(iterate 12 exact rfl);intro g)
     |(apply zbe hT;(iterate 10 exact rfl);(first|exact sel0|exact sel1|exact selS sel1|exact selS (selS sel1)|exact selS (selS (selS sel1))|exact selS (selS (selS (selS sel1)))|exact selS (selS (selS (selS (selS sel1))))|exact selS (selS (selS (selS (selS (selS sel1))))));exact zaE.own mem0 rfl (Lvl.enc_one ⟨x.price,x.left⟩);omega;(show(_:Nat)*16≤_;omega);intro A' c')
     |(apply zab;(iterate 5 exact rfl);first|exact zat hT rfl rfl mem0 rfl rfl|exact zar hT rfl rfl mem0 rfl)
     |(apply zab;(iterate 5 exact rfl);first|exact zat hT rfl rfl mem1 rfl rfl|exact zar hT rfl rfl mem1 rfl)
     |(apply zab;(iterate 5 exact rfl);first|exact zat hT rfl rfl mem2 rfl rfl|exact zar hT rfl rfl mem2 rfl)
     |(apply zab;(iterate 5 exact rfl);first|exact zat hT rfl rfl mem0 rfl rfl|exact zar hT rfl rfl mem0 rfl)
     |(apply zab;(iterate 5 exact rfl);first|exact zat hT rfl rfl (List.mem_cons_of_mem _ mem0) rfl rfl|exact zar hT rfl rfl (List.mem_cons_of_mem _ mem0) rfl)
     |(apply zab;(iterate 5 exact rfl);first|exact zat hT rfl rfl mem1 rfl rfl|exact zar hT rfl rfl mem1 rfl)
     |(apply zab;(iterate 5 exact rfl);first|exact zat hT rfl rfl (List.mem_cons_of_mem _ mem1) rfl rfl|exact zar hT rfl rfl (List.mem_cons_of_mem _ mem1) rfl)
     |(apply zav;(iterate 5 exact rfl);intro _)|(apply zac hT;(iterate 5 exact rfl);intro _)
     |(apply zaf;(iterate 2 exact rfl))|(apply zag;(iterate 2 exact rfl))
     |(apply zal;exact rfl;all_goals intro hb;all_goals(try simp only[hb]);all_goals(first|replace hb:=of_decide_eq_true hb|replace hb:=of_decide_eq_false hb|replace hb:=zap hb|replace hb:=zaq hb|skip);all_goals(try(exfalso;omega)))
     |(apply zao;exact rfl;all_goals intro hb;all_goals(try simp only[hb]);all_goals(first|replace hb:=of_decide_eq_true hb|replace hb:=of_decide_eq_false hb|replace hb:=zap hb|replace hb:=zaq hb|skip);all_goals(try(exfalso;omega))))
    all_goals first
     |(exfalso;omega)
     |(refine zaO (k+1,A',c') (by dsimp only;omega) (by dsimp only;omega) ⟨by dsimp only;rw[hstep,hadd,lla];rfl,rfl,rfl,rfl,trivial⟩ ?_
       dsimp only
       rw[hstep,hadd,lla,List.flatMap_append]
       apply za7;(first|exact sel0|exact sel1|exact selS sel1|exact selS (selS sel1)|exact selS (selS (selS sel1))|exact selS (selS (selS (selS sel1)))|exact selS (selS (selS (selS (selS sel1))))|exact selS (selS (selS (selS (selS (selS sel1))))))
       apply za7;(first|exact sel0|exact sel1|exact selS sel1|exact selS (selS sel1)|exact selS (selS (selS sel1))|exact selS (selS (selS (selS sel1)))|exact selS (selS (selS (selS (selS sel1))))|exact selS (selS (selS (selS (selS (selS sel1))))))
       exact dX)
     |(exfalso;simp_all;done)
 ·obtain rfl:k=sl.length:=by omega
  have hd1:decide ((sl.length:Int)<(sl.length:Int))=false:=by simp
  rw[List.take_length]at hf5 ⊢
  repeat' (first
   |apply zaA|apply zaa|apply zaz|apply zam|apply zan|apply zae|apply zay
   |(apply zaj hT;(iterate 4 exact rfl))|(apply zak;(iterate 3 exact rfl))|(apply zad;(iterate 2 exact rfl))
   |(apply zax hT;(iterate 4 exact rfl);(iterate 2 omega))
   |(apply zas [] [] hmix;decide+kernel)
   |(apply zab;(iterate 5 exact rfl);first|exact zat hT rfl rfl mem0 rfl rfl|exact zar hT rfl rfl mem0 rfl)
   |(apply zab;(iterate 5 exact rfl);first|exact zat hT rfl rfl mem1 rfl rfl|exact zar hT rfl rfl mem1 rfl)
   |(apply zab;(iterate 5 exact rfl);first|exact zat hT rfl rfl mem2 rfl rfl|exact zar hT rfl rfl mem2 rfl)
   |(apply zav;(iterate 5 exact rfl);intro _)|(apply zac hT;(iterate 5 exact rfl);intro _)
   |(apply zaf;(iterate 2 exact rfl))|(apply zag;(iterate 2 exact rfl))
   |(apply zal;exact rfl;all_goals intro hb;all_goals(try simp only[hb]);all_goals(first|replace hb:=of_decide_eq_true hb|replace hb:=of_decide_eq_false hb|replace hb:=zap hb|replace hb:=zaq hb|skip);all_goals(try(exfalso;omega)))
   |(apply zao;exact rfl;all_goals intro hb;all_goals(try simp only[hb]);all_goals(first|replace hb:=of_decide_eq_true hb|replace hb:=of_decide_eq_false hb|replace hb:=zap hb|replace hb:=zaq hb|skip);all_goals(try(exfalso;omega))))
  apply ret1;exact rfl
  exact⟨.own A5 (zaV sl).length c5 134 2 ((zaV sl).flatMap Lvl.enc)::h,by apply za7;(first|exact sel0|exact sel1|exact selS sel1|exact selS (selS sel1)|exact selS (selS (selS sel1))|exact selS (selS (selS (selS sel1)))|exact selS (selS (selS (selS (selS sel1))))|exact selS (selS (selS (selS (selS (selS sel1))))));exact dX,fun w hw=>⟨A5,c5,rfl,rfl,hf5⟩⟩
end Go.Proofs.YteocfhdocpeokaaGreat
set_option linter.unusedSimpArgs false
set_option linter.unusedVariables false
namespace Go.Proofs.YteocfhdocpeokaaGreat
open Go Go.Sl
attribute [local irreducible] AW ES EP Ld RetQ
set_option maxRecDepth 100000
structure zbD (l:List zaF):Prop where
 seq:zcn l
 id:l.Pairwise fun a b=>a.id≠b.id
 ok:∀o∈l,okO o=true
 len:l.length≤64
theorem zbD.nil :zbD []:=⟨List.Pairwise.nil,List.Pairwise.nil,(fun o h=>by cases h),Nat.zero_le _⟩
theorem zgu {o:zaF}(h:okO o=true):isB o.side=true:=by simp only[okO,Bool.and_eq_true]at h;exact h.2
theorem zgv {o:zaF}(h:okO o=true):1≤o.left∧o.left≤1000000:=by
 simp only[okO,Bool.and_eq_true,decide_eq_true_eq]at h
 exact⟨h.1.1.1.2,h.1.1.2⟩
theorem zbD.side {l:List zaF}(h:zbD l):∀o∈l,isB o.side=true:=fun o ho=>zgu (h.ok o ho)
theorem zbD.left {l:List zaF}(h:zbD l):∀o∈l,1≤o.left∧o.left≤1000000:=fun o ho=>zgv (h.ok o ho)
theorem zbD.le {l:List zaF}(h:zbD l):l.length≤1000000:=by have:=h.len;omega
theorem zbD.add {l:List zaF}(h:zbD l)(o:zaF):zbD (addO o l):=by
 unfold addO
 split
 ·rename_i h0
  have hE:=h0
  unfold zhe at hE
  have h1:¬(okO o=false∨zbf (zeZ o) l≥0):=fun hh=>by rw[if_pos hh]at hE;omega
  rw[if_neg h1]at hE
  have h2:¬l.length≥64:=fun hh=>by rw[if_pos hh]at hE;omega
  have hno:∀x∈l,zeZ o x=false:=zbZ.1 (by omega)
  have hok:okO o=true:=by
   cases hh:okO o
   ·exact absurd (.inl hh) h1
   ·rfl
  have hne:∀x∈l,x.id≠o.id∧x.seq≠o.seq:=fun x hx=>by
   have:=hno x hx
   simp only[zeZ,Bool.or_eq_false_iff,beq_eq_false_iff_ne]at this
   exact this
  refine⟨?_,?_,?_,by simp;omega⟩
  ·unfold zcn
   rw[List.pairwise_append]
   exact⟨h.seq,by simp,fun a ha b hb=>by rw[lms.1 hb];exact(hne a ha).2⟩
  ·rw[List.pairwise_append]
   exact⟨h.id,by simp,fun a ha b hb=>by rw[lms.1 hb];exact(hne a ha).1⟩
  ·intro x hx
   rcases lma.1 hx with hx|hx
   ·exact h.ok x hx
   ·rw[lms.1 hx];exact hok
 ·exact h
end Go.Proofs.YteocfhdocpeokaaGreat
set_option linter.unusedSimpArgs false
set_option linter.unusedVariables false
namespace Go.Proofs.YteocfhdocpeokaaGreat
open Go Go.Sl
attribute [local irreducible] AW ES EP Ld RetQ
set_option maxRecDepth 100000
/-- less of one order: in a side, too -/
def lf (id left:Int)(x:zaF):zaF:=if x.id=id then{x with left:=left}else x
theorem zfY {id left:Int}{l:List zaF}(hu:l.Pairwise fun a b=>a.id≠b.id)(hE:zff id left l=0):zgs id left l=l.map (lf id left):=by
 rcases zfT (p:=hasO id) l with ⟨hi,hf⟩|⟨i,x,hi,hx,hp,hf⟩
 ·simp[zff,getO,hf]at hE
 ·have hg:getO id l=some x:=hf
  have hL:zgs id left l=l.set i {x with left:=left}:=by simp[zgs,hg,hE,hi]
  rw[hL]
  have hxi:x.id=id:=by simpa [hasO]using hp
  obtain⟨hlt,hxe⟩:=gsi.1 hx
  apply List.ext_getElem?
  intro j
  rw[List.getElem?_map]
  by_cases hij:i=j
  ·subst hij
   rw[hx,List.getElem?_set_self hlt];simp[lf,hxi]
  ·rw[List.getElem?_set_ne hij]
   cases hy:l[j]? with
   |none=>rfl
   |some y=>
    simp only[Option.map_some]
    obtain⟨hjl,hye⟩:=gsi.1 hy
    have hne:y.id≠x.id:=by
     rcases Nat.lt_or_gt_of_ne hij with h|h
     ·have:=List.pairwise_iff_getElem.1 hu i j hlt hjl h
      rw[hxe,hye]at this;exact fun e=>this e.symm
     ·have:=List.pairwise_iff_getElem.1 hu j i hjl hlt h
      rw[hxe,hye]at this;exact this
    rw[lf,if_neg (by rw[←hxi];exact hne)]
theorem zbD.less {l:List zaF}(h:zbD l){id left:Int}(hE:zff id left l=0):zbD (zgs id left l):=by
 rw[zfY h.id hE]
 have hq:1≤left∧∀x∈l,x.id=id→left≤x.left:=by
  rcases zfT (p:=hasO id) l with ⟨hi,hf⟩|⟨i,x,hi,hx,hp,hf⟩
  ·simp[zff,getO,hf]at hE
  ·have hg:getO id l=some x:=hf
   have hb:¬(left<1∨left>x.left):=fun hh=>by simp[zff,hg,hh]at hE
   refine⟨by omega,fun y hy hyi=> ?_⟩
   have hxi:x.id=id:=by simpa [hasO]using hp
   obtain⟨j,hj⟩:=List.getElem?_of_mem hy
   obtain⟨hlt,hxe⟩:=gsi.1 hx
   obtain⟨hjl,hye⟩:=gsi.1 hj
   rcases Nat.lt_trichotomy i j with h'|h'|h'
   ·have:=List.pairwise_iff_getElem.1 h.id i j hlt hjl h'
    rw[hxe,hye]at this;omega
   ·subst h';rw[hxe]at hye;rw[←hye];omega
   ·have:=List.pairwise_iff_getElem.1 h.id j i hjl hlt h'
    rw[hxe,hye]at this;omega
 have k:∀x:zaF,(lf id left x).id=x.id∧(lf id left x).seq=x.seq:=fun x=>by unfold lf;split<;>exact⟨rfl,rfl⟩
 refine⟨?_,?_,?_,by simpa using h.len⟩
 ·unfold zcn;rw[List.pairwise_map];exact h.seq.imp (fun{a b} hab=>by rw[(k a).2,(k b).2];exact hab)
 ·rw[List.pairwise_map];exact h.id.imp (fun{a b} hab=>by rw[(k a).1,(k b).1];exact hab)
 ·intro o ho
  obtain⟨x,hx,rfl⟩:=lmm.1 ho
  have hok:=h.ok x hx
  have hl:=h.left x hx
  unfold lf
  split
  ·rename_i hxi
   have:=hq.2 x hx hxi
   simp only[okO,Bool.and_eq_true,decide_eq_true_eq]at hok ⊢
   obtain⟨⟨⟨⟨⟨⟨⟨a1,a2⟩,a3⟩,a4⟩,a5⟩,a6⟩,a7⟩,a8⟩:=hok
   exact⟨⟨⟨⟨⟨⟨⟨a1,a2⟩,a3⟩,a4⟩,hq.1⟩,by omega⟩,a7⟩,a8⟩
  ·exact hok
end Go.Proofs.YteocfhdocpeokaaGreat
set_option linter.unusedSimpArgs false
set_option linter.unusedVariables false
namespace Go.Proofs.YteocfhdocpeokaaGreat
open Go Go.Sl
attribute [local irreducible] AW ES EP Ld RetQ
set_option maxRecDepth 100000
structure zgw where
 kind:Int
 order:zaF
def zgw.enc (a:zgw):List Value:=.int .i64 a.kind::a.order.enc
theorem zgw.enc_len (a:zgw):a.enc.length=7:=rfl
theorem zbD.sub {l m:List zaF}(h:zbD l)(hs:m.Sublist l):zbD m:=
 ⟨List.Pairwise.sublist hs h.seq,h.id.sublist hs,fun o ho=>h.ok o (hs.subset ho),Nat.le_trans hs.length_le h.len⟩
end Go.Proofs.YteocfhdocpeokaaGreat
set_option linter.unusedSimpArgs false
set_option linter.unusedVariables false
namespace Go.Proofs.YteocfhdocpeokaaGreat
open Go Go.Sl
def pqO (o:zaF):Int×Int:=(o.price,o.left)
/-- prices and quantities that may be -/
def okP (l:List (Int×Int)):Prop:=∀x∈l,1≤x.1∧x.1≤1000000∧1≤x.2
theorem okP.tail {x:Int×Int}{l:List (Int×Int)}(h:okP (x::l)):okP l:=fun y hy=>h y (List.mem_cons_of_mem _ hy)
/-! ### a side -/
def okS (o:List zaF):Prop:=∀x∈o,1≤x.price∧x.price≤1000000∧1≤x.left∧x.left≤1000000
theorem okS.pq {o:List zaF}(h:okS o):okP (o.map pqO):=fun x hx=>by
 obtain⟨y,hy,rfl⟩:=lmm.1 hx
 exact⟨(h y hy).1,(h y hy).2.1,(h y hy).2.2.1⟩
theorem zeh {o:zaF}(h:okO o=true):1≤o.price∧o.price≤1000000:=by
 simp only[okO,Bool.and_eq_true,decide_eq_true_eq]at h
 exact⟨h.1.1.1.1.1.2,h.1.1.1.1.2⟩
theorem zbD.okS {l:List zaF}(h:zbD l)(s:Int):okS (zbq s l):=fun x hx=>by
 have:=(zdu hx).1
 exact⟨(zeh (h.ok x this)).1,(zeh (h.ok x this)).2,(h.left x this).1,(h.left x this).2⟩
end Go.Proofs.YteocfhdocpeokaaGreat
set_option linter.unusedSimpArgs false
set_option linter.unusedVariables false
namespace Go.Proofs.YteocfhdocpeokaaGreat
open Go Go.Sl
/-! ### books -/
/-- no two orders could trade -/
def zhk (l:List zaF):Prop:=∀a∈l,∀b∈l,a.side=1→b.side=2→a.price<b.price
instance (l:List zaF):Decidable (zhk l):=by unfold zhk;infer_instance
def zgF :List Lvl→List Lvl→Bool
 |v::_,w::_=>decide (v.price<w.price)
 |_,_=>true
end Go.Proofs.YteocfhdocpeokaaGreat
set_option linter.unusedSimpArgs false
set_option linter.unusedVariables false
namespace Go.Proofs.YteocfhdocpeokaaGreat
open Go Go.Sl
attribute [local irreducible] AW ES EP Ld RetQ
set_option maxRecDepth 100000
theorem zdc (W:World)(s:Int):zaC Tryz.prog W 70 [.pointer none,.int .i64 s] [] (.slice none 0 0):=by
 refine zaC.ofD (fun h' hs=> ?_)
 refine zau Tryz.func70 rfl rfl Tryz.results70 Tryz.ntmps70 rfl rfl ?_
 repeat' (first
  |apply zaA|apply zaa|apply zaz|apply zam|apply zan|apply zae|apply zay
  |(apply zaj hT;(iterate 4 exact rfl))|(apply zak;(iterate 3 exact rfl))|(apply zad;(iterate 2 exact rfl))
  |(apply zax hT;(iterate 4 exact rfl);(iterate 2 (first|omega|(dsimp only;omega))))
  |(apply zas [] [] hmix;decide+kernel)
  |(apply zaw (hs:=((zee W s).mono (by simp)));(iterate 7 exact rfl))
  |(apply zab;(iterate 5 exact rfl);first|(apply zat hT;exact rfl;exact rfl;(repeat(first|exact List.mem_cons_self|apply List.mem_cons_of_mem|apply List.mem_append_right));exact rfl;exact rfl)|(apply zar hT;exact rfl;exact rfl;(repeat(first|exact List.mem_cons_self|apply List.mem_cons_of_mem|apply List.mem_append_right));exact rfl))
  |(apply zav;(iterate 5 exact rfl);intro _)|(apply zac hT;(iterate 5 exact rfl);intro _)
  |(apply zaf;(iterate 2 exact rfl))|(apply zag;(iterate 2 exact rfl))
  |(apply zal;exact rfl;all_goals intro hb;all_goals(fail_if_success (change true=true at hb));all_goals(fail_if_success (change false=false at hb));all_goals(try dsimp only at hb);all_goals(try simp only[hb]);all_goals(first|replace hb:=of_decide_eq_true hb|replace hb:=of_decide_eq_false hb|replace hb:=zap hb|replace hb:=zaq hb|replace hb:=eq_of_beq hb|replace hb:=ne_of_beq_false hb|skip);all_goals(try(exfalso;omega)))
  |(apply zao;exact rfl;all_goals intro hb;all_goals(try dsimp only at hb);all_goals(try simp only[hb]);all_goals(first|replace hb:=of_decide_eq_true hb|replace hb:=of_decide_eq_false hb|replace hb:=zap hb|replace hb:=zaq hb|replace hb:=eq_of_beq hb|replace hb:=ne_of_beq_false hb|skip);all_goals(try(exfalso;omega))))
 refine za2 (α:=Unit) (E:=fun _=>[(5,.slice none 0 0),(12,.int .i64 0),(13,.int .i64 0)]) (H:=fun _=>h') (μ:=fun _=>0) (S:=fun _=>True) () trivial ⟨rfl,rfl,rfl,trivial⟩ dX ?_
 intro _ _
 have hd1:decide ((0:Int)<0)=false:=by decide
 repeat' (first
  |apply zaA|apply zaa|apply zaz|apply zam|apply zan|apply zae|apply zay
  |(apply zaj hT;(iterate 4 exact rfl))|(apply zak;(iterate 3 exact rfl))|(apply zad;(iterate 2 exact rfl))
  |(apply zax hT;(iterate 4 exact rfl);(iterate 2 (first|omega|(dsimp only;omega))))
  |(apply zas [] [] hmix;decide+kernel)
  |(apply zab;(iterate 5 exact rfl);first|(apply zat hT;exact rfl;exact rfl;(repeat(first|exact List.mem_cons_self|apply List.mem_cons_of_mem|apply List.mem_append_right));exact rfl;exact rfl)|(apply zar hT;exact rfl;exact rfl;(repeat(first|exact List.mem_cons_self|apply List.mem_cons_of_mem|apply List.mem_append_right));exact rfl))
  |(apply zav;(iterate 5 exact rfl);intro _)|(apply zac hT;(iterate 5 exact rfl);intro _)
  |(apply zaf;(iterate 2 exact rfl))|(apply zag;(iterate 2 exact rfl))
  |(apply zal;exact rfl;all_goals intro hb;all_goals(fail_if_success (change true=true at hb));all_goals(fail_if_success (change false=false at hb));all_goals(try dsimp only at hb);all_goals(try simp only[hb]);all_goals(first|replace hb:=of_decide_eq_true hb|replace hb:=of_decide_eq_false hb|replace hb:=zap hb|replace hb:=zaq hb|replace hb:=eq_of_beq hb|replace hb:=ne_of_beq_false hb|skip);all_goals(try(exfalso;omega)))
  |(apply zao;exact rfl;all_goals intro hb;all_goals(try dsimp only at hb);all_goals(try simp only[hb]);all_goals(first|replace hb:=of_decide_eq_true hb|replace hb:=of_decide_eq_false hb|replace hb:=zap hb|replace hb:=zaq hb|replace hb:=eq_of_beq hb|replace hb:=ne_of_beq_false hb|skip);all_goals(try(exfalso;omega))))
 all_goals first
  |(exfalso;omega)
  |(apply ret1;exact rfl;exact⟨rfl,dX⟩)
  |skip
theorem zco (W:World):zaC Tryz.prog W 38 [.pointer none] [] (.bool true):=by
 refine zaC.ofD (fun h' hs=> ?_)
 refine zau Tryz.func38 rfl rfl Tryz.results38 Tryz.ntmps38 rfl rfl ?_
 repeat' (first
  |apply zaA|apply zaa|apply zaz|apply zam|apply zan|apply zae|apply zay
  |(apply zaj hT;(iterate 4 exact rfl))|(apply zak;(iterate 3 exact rfl))|(apply zad;(iterate 2 exact rfl))
  |(apply zax hT;(iterate 4 exact rfl);(iterate 2 (first|omega|(dsimp only;omega))))
  |(apply zas [] [] hmix;decide+kernel)
  |(apply zaw (hs:=((zdc W _).mono (by simp)));(iterate 7 exact rfl))
  |(apply zab;(iterate 5 exact rfl);first|(apply zat hT;exact rfl;exact rfl;(repeat(first|exact List.mem_cons_self|apply List.mem_cons_of_mem|apply List.mem_append_right));exact rfl;exact rfl)|(apply zar hT;exact rfl;exact rfl;(repeat(first|exact List.mem_cons_self|apply List.mem_cons_of_mem|apply List.mem_append_right));exact rfl))
  |(apply zav;(iterate 5 exact rfl);intro _)|(apply zac hT;(iterate 5 exact rfl);intro _)
  |(apply zaf;(iterate 2 exact rfl))|(apply zag;(iterate 2 exact rfl))
  |(apply zal;exact rfl;all_goals intro hb;all_goals(fail_if_success (change true=true at hb));all_goals(fail_if_success (change false=false at hb));all_goals(try dsimp only at hb);all_goals(try simp only[hb]);all_goals(first|replace hb:=of_decide_eq_true hb|replace hb:=of_decide_eq_false hb|replace hb:=zap hb|replace hb:=zaq hb|replace hb:=eq_of_beq hb|replace hb:=ne_of_beq_false hb|skip);all_goals(try(exfalso;omega)))
  |(apply zao;exact rfl;all_goals intro hb;all_goals(try dsimp only at hb);all_goals(try simp only[hb]);all_goals(first|replace hb:=of_decide_eq_true hb|replace hb:=of_decide_eq_false hb|replace hb:=zap hb|replace hb:=zaq hb|replace hb:=eq_of_beq hb|replace hb:=ne_of_beq_false hb|skip);all_goals(try(exfalso;omega))))
 all_goals first
  |(exfalso;omega)
  |(apply ret1;exact rfl;exact⟨rfl,dX⟩)
  |skip
theorem zfZ {W:World}{h:List zah}{A:Option Addr}{c:Nat}{l:List Lvl}{n:Nat}(hm:zah.own A n c 134 2 (l.flatMap Lvl.enc)∈h)(hn:l.length=n):zaE W h A n 2 (l.flatMap Lvl.enc):=zaE.enc Lvl.enc_len Lvl.enc_one hm hn
theorem zc9 (W:World)(p:Nat)(A:Option Addr)(c:Nat)(l:List zaF)(hB:zbD l):
 zaC Tryz.prog W 38 [.pointer (some ⟨p,0,none⟩)] [.blk p 152 [.slice A l.length c],.own A l.length c 168 6 (l.flatMap zaF.enc)] (.bool (zgF (zaV (zbq 1 l)) (zaV (zbq 2 l)))):=by
 refine zaC.ofD (fun h' hs=> ?_)
 have m1:=hs _ mem0
 have m2:=hs _ mem1
 have hL1:=fun h m1 m2=>zc8 W h p A c l 1 m1 m2 hB.le hB.seq hB.side hB.left
 have hL2:=fun h m1 m2=>zc8 W h p A c l 2 m1 m2 hB.le hB.seq hB.side hB.left
 generalize zaV (zbq 1 l)=v1 at*
 generalize zaV (zbq 2 l)=v2 at*
 refine zau Tryz.func38 rfl rfl Tryz.results38 Tryz.ntmps38 rfl rfl ?_
 rcases v1 with _|⟨x,v1⟩
 ·repeat' (first
   |apply zaA|apply zaa|apply zaz|apply zam|apply zan|apply zae|apply zay
   |(apply zaj hT;(iterate 4 exact rfl))|(apply zak;(iterate 3 exact rfl))|(apply zad;(iterate 2 exact rfl))
   |(apply zax hT;(iterate 4 exact rfl);(iterate 2 (first|omega|(dsimp only;omega))))
   |(apply zas [] [] hmix;decide+kernel)
   |(apply zaN (hs:=(hL1 _ m1 m2));(iterate 7 exact rfl);rintro _ _ ⟨A1,c1,rfl,rfl,ho1⟩)
   |(apply zaN (hs:=(hL2 _ (.tail _ m1) (.tail _ m2)));(iterate 7 exact rfl);rintro _ _ ⟨A2,c2,rfl,rfl,ho2⟩)
   |(apply zab;(iterate 5 exact rfl);first|(apply zat hT;exact rfl;exact rfl;(repeat(first|exact List.mem_cons_self|apply List.mem_cons_of_mem|apply List.mem_append_right));exact rfl;exact rfl)|(apply zar hT;exact rfl;exact rfl;(repeat(first|exact List.mem_cons_self|apply List.mem_cons_of_mem|apply List.mem_append_right));exact rfl))
   |(apply zav;(iterate 5 exact rfl);intro _)|(apply zac hT;(iterate 5 exact rfl);intro _)
   |(apply zaf;(iterate 2 exact rfl))|(apply zag;(iterate 2 exact rfl))
   |(apply zal;exact rfl;all_goals intro hb;all_goals(fail_if_success (change true=true at hb));all_goals(fail_if_success (change false=false at hb));all_goals(try dsimp only at hb);all_goals(try simp only[hb]);all_goals(first|replace hb:=of_decide_eq_true hb|replace hb:=of_decide_eq_false hb|replace hb:=zap hb|replace hb:=zaq hb|replace hb:=eq_of_beq hb|replace hb:=ne_of_beq_false hb|skip);all_goals(try(exfalso;omega)))
   |(apply zao;exact rfl;all_goals intro hb;all_goals(try dsimp only at hb);all_goals(try simp only[hb]);all_goals(first|replace hb:=of_decide_eq_true hb|replace hb:=of_decide_eq_false hb|replace hb:=zap hb|replace hb:=zaq hb|replace hb:=eq_of_beq hb|replace hb:=ne_of_beq_false hb|skip);all_goals(try(exfalso;omega))))
  all_goals first
   |(exfalso;omega)
   |(apply ret1;exact rfl;exact⟨rfl,dX⟩)
   |skip
 ·rcases v2 with _|⟨y,v2⟩
  ·have hd0:decide ((((x::v1).length:Nat):Int)=0)=false:=by simp;omega
   repeat' (first
    |apply zaA|apply zaa|apply zaz|apply zam|apply zan|apply zae|apply zay
    |(apply zaj hT;(iterate 4 exact rfl))|(apply zak;(iterate 3 exact rfl))|(apply zad;(iterate 2 exact rfl))
    |(apply zax hT;(iterate 4 exact rfl);(iterate 2 (first|omega|(dsimp only;omega))))
    |(apply zas [] [] hmix;decide+kernel)
    |(apply zaN (hs:=(hL1 _ m1 m2));(iterate 7 exact rfl);rintro _ _ ⟨A1,c1,rfl,rfl,ho1⟩)
    |(apply zaN (hs:=(hL2 _ (.tail _ m1) (.tail _ m2)));(iterate 7 exact rfl);rintro _ _ ⟨A2,c2,rfl,rfl,ho2⟩)
    |(apply zab;(iterate 5 exact rfl);first|(apply zat hT;exact rfl;exact rfl;(repeat(first|exact List.mem_cons_self|apply List.mem_cons_of_mem|apply List.mem_append_right));exact rfl;exact rfl)|(apply zar hT;exact rfl;exact rfl;(repeat(first|exact List.mem_cons_self|apply List.mem_cons_of_mem|apply List.mem_append_right));exact rfl))
    |(apply zav;(iterate 5 exact rfl);intro _)|(apply zac hT;(iterate 5 exact rfl);intro _)
    |(apply zaf;(iterate 2 exact rfl))|(apply zag;(iterate 2 exact rfl))
    |(apply zal;exact rfl;all_goals intro hb;all_goals(fail_if_success (change true=true at hb));all_goals(fail_if_success (change false=false at hb));all_goals(try dsimp only at hb);all_goals(try simp only[hb]);all_goals(first|replace hb:=of_decide_eq_true hb|replace hb:=of_decide_eq_false hb|replace hb:=zap hb|replace hb:=zaq hb|replace hb:=eq_of_beq hb|replace hb:=ne_of_beq_false hb|skip);all_goals(try(exfalso;omega)))
    |(apply zao;exact rfl;all_goals intro hb;all_goals(try dsimp only at hb);all_goals(try simp only[hb]);all_goals(first|replace hb:=of_decide_eq_true hb|replace hb:=of_decide_eq_false hb|replace hb:=zap hb|replace hb:=zaq hb|replace hb:=eq_of_beq hb|replace hb:=ne_of_beq_false hb|skip);all_goals(try(exfalso;omega))))
   all_goals first
    |(exfalso;simp only[List.length_cons]at *;omega)
    |(apply ret1;exact rfl;exact⟨rfl,dX⟩)
    |skip
  ·have hx:(x::v1)[(0:Int).toNat]? =some x:=rfl
   have hy:(y::v2)[(0:Int).toNat]? =some y:=rfl
   have hlx:0<(x::v1).length:=by simp
   have hly:0<(y::v2).length:=by simp
   repeat' (first
    |apply zaA|apply zaa|apply zaz|apply zam|apply zan|apply zae|apply zay
    |(apply zaj hT;(iterate 4 exact rfl))|(apply zak;(iterate 3 exact rfl))|(apply zad;(iterate 2 exact rfl))
    |(apply zax hT;(iterate 4 exact rfl);(iterate 2 (first|omega|(dsimp only;omega))))
    |(apply zas [] [] hmix;decide+kernel)
    |(apply zaN (hs:=(hL1 _ m1 m2));(iterate 7 exact rfl);rintro _ _ ⟨A1,c1,rfl,rfl,ho1⟩)
    |(apply zaN (hs:=(hL2 _ (.tail _ m1) (.tail _ m2)));(iterate 7 exact rfl);rintro _ _ ⟨A2,c2,rfl,rfl,ho2⟩)
    |(apply za4 hT;(iterate 8 exact rfl);(iterate 2 omega);first|exact ho1.some_ hlx|exact ho2.some_ hly)
    |(apply zab;(iterate 5 exact rfl);first|exact zeH hT rfl rfl (zfZ (by(repeat(first|exact List.mem_cons_self|apply List.mem_cons_of_mem|apply List.mem_append_right))) rfl) Lvl.enc_len (zcs _ _ _) hx (by decide) rfl|exact zeH hT rfl rfl (zfZ (by(repeat(first|exact List.mem_cons_self|apply List.mem_cons_of_mem|apply List.mem_append_right))) rfl) Lvl.enc_len (zcs _ _ _) hy (by decide) rfl)
    |(apply zab;(iterate 5 exact rfl);first|(apply zat hT;exact rfl;exact rfl;(repeat(first|exact List.mem_cons_self|apply List.mem_cons_of_mem|apply List.mem_append_right));exact rfl;exact rfl)|(apply zar hT;exact rfl;exact rfl;(repeat(first|exact List.mem_cons_self|apply List.mem_cons_of_mem|apply List.mem_append_right));exact rfl))
    |(apply zav;(iterate 5 exact rfl);intro _)|(apply zac hT;(iterate 5 exact rfl);intro _)
    |(apply zaf;(iterate 2 exact rfl))|(apply zag;(iterate 2 exact rfl))
    |(apply zal;exact rfl;all_goals intro hb;all_goals(fail_if_success (change true=true at hb));all_goals(fail_if_success (change false=false at hb));all_goals(try dsimp only at hb);all_goals(try simp only[hb]);all_goals(first|replace hb:=of_decide_eq_true hb|replace hb:=of_decide_eq_false hb|replace hb:=zap hb|replace hb:=zaq hb|replace hb:=eq_of_beq hb|replace hb:=ne_of_beq_false hb|skip);all_goals(try(exfalso;omega)))
    |(apply zao;exact rfl;all_goals intro hb;all_goals(try dsimp only at hb);all_goals(try simp only[hb]);all_goals(first|replace hb:=of_decide_eq_true hb|replace hb:=of_decide_eq_false hb|replace hb:=zap hb|replace hb:=zaq hb|replace hb:=eq_of_beq hb|replace hb:=ne_of_beq_false hb|skip);all_goals(try(exfalso;omega))))
   all_goals first
    |(exfalso;simp only[List.length_cons]at *;omega)
    |(apply ret1;exact rfl;exact⟨by simp[zgF, *],dX⟩)
    |skip
end Go.Proofs.YteocfhdocpeokaaGreat
set_option linter.unusedSimpArgs false
set_option linter.unusedVariables false
namespace Go.Proofs.YteocfhdocpeokaaGreat
open Go Go.Sl
attribute [local irreducible] AW ES EP Ld RetQ
set_option maxRecDepth 100000
theorem zeC {x:DAd}{s:Dk}{bks:List BAd}{rows:List PRow}{F:List zah}:∀c∈zaU x s bks rows [],c∈zaU x s bks rows F:=fun c hc=>by
 unfold zaU at*
 iterate 18 refine(List.mem_cons.1 hc).elim (fun e=>e▸List.mem_cons_self) (fun hc=>List.mem_cons_of_mem _ ?_)
 rw[List.append_nil]at hc
 rcases lma.1 hc with hc|hc
 ·exact List.mem_append_left _ hc
 ·exact List.mem_append_right _ (List.mem_append_left _ hc)
theorem zei {x:DAd}{s:Dk}{bks:List BAd}{rows:List PRow}{F:List zah}:zaL (zaU x s bks rows F) F:=by
 unfold zaU
 iterate 18 apply zbt
 exact zeM (zeM zbi)
theorem zf0 (np nb:Nat)(p:Ps):eqPs np nb p p=true:=by
 unfold eqPs zbS
 simp
theorem zdM (W:World)(AB:Option Addr)(nb cB:Nat)(AP:Option Addr)(np cP:Nat)(look beat:Int):zaC Tryz.prog W 20 [zc2 AB nb cB AP np cP look beat,.pointer none] [] (.bool false):=by
 refine zaC.ofD (fun h' hs=> ?_)
 refine zau Tryz.func20 rfl rfl Tryz.results20 Tryz.ntmps20 rfl rfl ?_
 repeat' (first
  |apply zaA|apply zaa|apply zaz|apply zam|apply zan|apply zae|apply zay
  |(apply zaj hT;(iterate 4 exact rfl))|(apply zak;(iterate 3 exact rfl))|(apply zad;(iterate 2 exact rfl))
  |(apply zax hT;(iterate 4 exact rfl);(iterate 2 (first|omega|(dsimp only;omega))))
  |(apply zas [] [] hmix;decide+kernel)
  |(apply zav;(iterate 5 exact rfl);intro g2)
  |(apply zab;(iterate 5 exact rfl);first|(apply zat hT;exact rfl;exact rfl;(repeat(first|exact List.mem_cons_self|apply List.mem_cons_of_mem|apply List.mem_append_right));exact rfl;exact rfl)|(apply zar hT;exact rfl;exact rfl;(repeat(first|exact List.mem_cons_self|apply List.mem_cons_of_mem|apply List.mem_append_right));exact rfl))
  |(apply zav;(iterate 5 exact rfl);intro _)|(apply zac hT;(iterate 5 exact rfl);intro _)
  |(apply zaf;(iterate 2 exact rfl))|(apply zag;(iterate 2 exact rfl))
  |(apply zal;exact rfl;all_goals intro hb;all_goals(fail_if_success (change true=true at hb));all_goals(fail_if_success (change false=false at hb));all_goals(try dsimp only at hb);all_goals(try simp only[hb]);all_goals(first|replace hb:=of_decide_eq_true hb|replace hb:=of_decide_eq_false hb|replace hb:=zap hb|replace hb:=zaq hb|replace hb:=eq_of_beq hb|replace hb:=ne_of_beq_false hb|skip);all_goals(try(exfalso;omega)))
  |(apply zao;exact rfl;all_goals intro hb;all_goals(try dsimp only at hb);all_goals(try simp only[hb]);all_goals(first|replace hb:=of_decide_eq_true hb|replace hb:=of_decide_eq_false hb|replace hb:=zap hb|replace hb:=zaq hb|replace hb:=eq_of_beq hb|replace hb:=ne_of_beq_false hb|skip);all_goals(try(exfalso;omega))))
 all_goals first
  |(exfalso;omega)
  |(apply ret1;exact rfl;exact⟨rfl,dX⟩)
  |skip
theorem zeD (W:World)(h:List zah)(AB:Option Addr)(cB:Nat)(bs:List za1)(AP:Option Addr)(cP:Nat)(ps:List zaH)(look beat:Int)(hrB:zaE W h AB bs.length 7 (bs.flatMap za1.enc))(hrP:zaE W h AP ps.length 3 (ps.flatMap zaH.enc))(hR:isR bs ps look beat=true)
 (x:DAd) (s:Dk) (bks:List BAd) (rows:List PRow) (h1:s.trades=[]) (h2:s.asks=[]) (h3:s.head=0) (h4:s.now=0) (hps:psOf s.cash rows=zbo ps.length bs.length) (hbk:∀b∈bks,b.l=[]) (hlb:bks.length=bs.length) (hls:s.books.length=bs.length)
 (hd:∀c∈zaU x s bks rows [],c∈h):zaC Tryz.prog W 20 [zc2 AB bs.length cB AP ps.length cP look beat,ptrV x.d] h (.bool true):=by
 refine zaC.ofD (fun h' hs=> ?_)
 have hd':∀c∈zaU x s bks rows [],c∈h':=fun c hc=>hs c (hd c hc)
 have hrB':=hrB.mono hs
 have hrP':=hrP.mono hs
 obtain⟨⟨b1,b2⟩,⟨p1,p2⟩,lk1,lk2⟩:=zfG hR
 have hFI:=(zfB W h' AB cB bs AP cP ps look beat hrB' hrP' (by omega) (by omega)).cast (u:=.bool true) (by rw[hR])
 have md:zah.blk x.d 112 (zbU x s)∈h':=hd' _ (by unfold zaU;(repeat(first|exact List.mem_cons_self|apply List.mem_cons_of_mem|apply List.mem_append_right)))
 have mb:zah.blk x.b 149 [x.trades.sl s.trades.length,.int .u64 s.head]∈h':=hd' _ (by unfold zaU;(repeat(first|exact List.mem_cons_self|apply List.mem_cons_of_mem|apply List.mem_append_right)))
 have mt:x.trades.own s.trades.length 30 8 (s.trades.flatMap zaG.enc)∈h':=hd' _ (by unfold zaU;(repeat(first|exact List.mem_cons_self|apply List.mem_cons_of_mem|apply List.mem_append_right)))
 have ma:zah.blk x.a 144 [x.asks.sl s.asks.length]∈h':=hd' _ (by unfold zaU;(repeat(first|exact List.mem_cons_self|apply List.mem_cons_of_mem|apply List.mem_append_right)))
 have mas:x.asks.own s.asks.length 87 10 (s.asks.flatMap AskR.enc)∈h':=hd' _ (by unfold zaU;(repeat(first|exact List.mem_cons_self|apply List.mem_cons_of_mem|apply List.mem_append_right)))
 have mbk:x.books.own s.books.length 113 1 (bks.map BAd.ptr)∈h':=hd' _ (by unfold zaU;(repeat(first|exact List.mem_cons_self|apply List.mem_cons_of_mem|apply List.mem_append_right)))
 have mps:∀c∈zaM x.p x.cash.A x.cash.c x.pos.A x.pos.c s.cash rows [],c∈h':=fun c hc=>by
  refine hd' c ?_
  unfold zaM at hc
  rw[List.append_nil]at hc
  rcases List.mem_cons.1 hc with rfl|hc
  ·unfold zaU;(repeat(first|exact List.mem_cons_self|apply List.mem_cons_of_mem|apply List.mem_append_right))
  rcases List.mem_cons.1 hc with rfl|hc
  ·unfold zaU;(repeat(first|exact List.mem_cons_self|apply List.mem_cons_of_mem|apply List.mem_append_right))
  rcases List.mem_cons.1 hc with rfl|hc
  ·unfold zaU;(repeat(first|exact List.mem_cons_self|apply List.mem_cons_of_mem|apply List.mem_append_right))
  unfold zaU
  iterate 18 refine List.mem_cons_of_mem _ ?_
  exact List.mem_append_right _ (List.mem_append_left _ hc)
 have mck:∀b∈bks,∀c∈BAd.ck b,c∈h':=fun b hb c hc=>by
  refine hd' c ?_
  unfold zaU
  iterate 18 refine List.mem_cons_of_mem _ ?_
  exact List.mem_append_left _ (List.mem_flatMap.2 ⟨b,hb,hc⟩)
 have hPs:=hps
 have hTr:=fun k (hk:∀c∈h',c∈k)=>zex W k x s (hk _ md) (hk _ mb) (hk _ mt) (by rw[h1];simp)
 have hAs:=fun k (hk:∀c∈h',c∈k)=>zfM W k x s (hk _ md) (hk _ ma) (hk _ mas) (by rw[h2];simp)
 have hHd:=fun k (hk:∀c∈h',c∈k)=>(zfJ W x s _).mono (h':=k) (zgT (hk _ md) (hk _ mb))
 have hPo:=fun k (hk:∀c∈h',c∈k)=>(zgn W x s).mono (h':=k) (zes (hk _ md))
 have hNo:=fun k (hk:∀c∈h',c∈k)=>(zgm W x s).mono (h':=k) (zes (hk _ md))
 have hSu:=fun k (hk:∀c∈h',c∈k) A c=>(zdo W k ps.length bs.length ⟨by omega,by omega⟩ A c [] zc6 (by simp) (fun t ht=>by cases ht) x.p x.cash.A x.cash.c x.pos.A x.pos.c s.cash rows (by rw[hPs];exact zcj _ _) (fun c hc=>hk _ (mps c hc))).cast (u:=.bool true) (by rw[hPs];unfold zdY;dsimp only[zbR];rw[zf0])
 have hEn:=fun k A c=>(zc5 W k A c [] s.now look zc6 (by simp) (by unfold inW;omega) (fun a ha=>by cases ha))
 have hBo:=fun i b hi k (hk:∀c∈h',c∈k)=>(zfK W x s bks i b (by omega) hi (by omega)).mono (h':=k) (zgT (hk _ md) (hk _ mbk))
 have hUn:=fun b (hb:b∈bks) k (hk:∀c∈h',c∈k)=>(zc9 W b.p b.s.A b.s.c b.l (by rw[hbk b hb];exact zbD.nil)).mono (h':=k) (fun c hc=>hk _ (mck b hb c hc))
 have hOn:=fun A c A2 c2=>zez W A c A2 c2
 have hHe:=fun A c=>zey W A c
 rw[h1]at hTr
 rw[h2]at hAs
 rw[h3]at hHd
 rw[h4]at hNo hEn
 simp only[List.length_nil,List.flatMap_nil]at hTr hAs hSu hEn
 clear hd hd' md mb mt ma mas mbk mps mck hps
 refine zau Tryz.func20 rfl rfl Tryz.results20 Tryz.ntmps20 rfl rfl ?_
 refine zaK hrB' rfl (fun hA=> ?_)
 repeat' (first
  |apply zaA|apply zaa|apply zaz|apply zam|apply zan|apply zae|apply zay
  |(apply zaj hT;(iterate 4 exact rfl))|(apply zak;(iterate 3 exact rfl))|(apply zad;(iterate 2 exact rfl))
  |(apply zax hT;(iterate 4 exact rfl);(iterate 2 (first|omega|(dsimp only;omega))))
  |(apply zas [] [] hmix;decide+kernel)
  |(apply zav;(iterate 5 exact rfl);intro g2)
  |(apply zaw (hs:=(hFI.mono (by(intro c hc;(repeat(first|exact hc|apply List.mem_cons_of_mem|apply List.mem_append_right))))));(iterate 7 exact rfl))
  |(apply zab;(iterate 5 exact rfl);first|(apply zat hT;exact rfl;exact rfl;(repeat(first|exact List.mem_cons_self|apply List.mem_cons_of_mem|apply List.mem_append_right));exact rfl;exact rfl)|(apply zar hT;exact rfl;exact rfl;(repeat(first|exact List.mem_cons_self|apply List.mem_cons_of_mem|apply List.mem_append_right));exact rfl))
  |(apply zav;(iterate 5 exact rfl);intro _)|(apply zac hT;(iterate 5 exact rfl);intro _)
  |(apply zaf;(iterate 2 exact rfl))|(apply zag;(iterate 2 exact rfl))
  |(apply zal;exact rfl;all_goals intro hb;all_goals(fail_if_success (change true=true at hb));all_goals(fail_if_success (change false=false at hb));all_goals(try dsimp only at hb);all_goals(try simp only[hb]);all_goals(first|replace hb:=of_decide_eq_true hb|replace hb:=of_decide_eq_false hb|replace hb:=zap hb|replace hb:=zaq hb|replace hb:=eq_of_beq hb|replace hb:=ne_of_beq_false hb|skip);all_goals(try(exfalso;omega)))
  |(apply zao;exact rfl;all_goals intro hb;all_goals(try dsimp only at hb);all_goals(try simp only[hb]);all_goals(first|replace hb:=of_decide_eq_true hb|replace hb:=of_decide_eq_false hb|replace hb:=zap hb|replace hb:=zaq hb|replace hb:=eq_of_beq hb|replace hb:=ne_of_beq_false hb|skip);all_goals(try(exfalso;omega))))
 all_goals try(exfalso;omega)
 refine za2 (α:=Nat) (E:=fun k=>[(1,ptrV x.d),(2,.pointer (some ⟨g2,0,none⟩)),(18,.int .i64 bs.length),(19,.int .i64 k)]) (H:=fun _=>.blk g2 53 [.slice AB bs.length cB,.slice AP ps.length cP,.int .i64 look,.int .i64 beat]::h') (μ:=fun k=>bs.length - k)
  (S:=fun k=>k≤bs.length) 0 (Nat.zero_le _) ⟨rfl,rfl,rfl,rfl,trivial⟩ dX ?_
 intro k hk
 by_cases hlt:k<bs.length
 ·obtain⟨b,hbb⟩:∃b,bks[k]? =some b:=⟨bks[k]'(by omega),gge (by omega)⟩
  have hbm:=mog hbb
  have hU:=fun k hk=>(hUn b hbm k hk).cast (u:=.bool true) (by rw[hbk b hbm];rfl)
  have hd1:decide ((k:Int)<(bs.length:Int))=true:=by simp;omega
  repeat' (first
   |apply zaA|apply zaa|apply zaz|apply zam|apply zan|apply zae|apply zay
   |(apply zaj hT;(iterate 4 exact rfl))|(apply zak;(iterate 3 exact rfl))|(apply zad;(iterate 2 exact rfl))
   |(apply zax hT;(iterate 4 exact rfl);(iterate 2 (first|omega|(dsimp only;omega))))
   |(apply zas [] [] hmix;decide+kernel)
   |(apply zaw (hs:=(hBo k b hbb _ (by(intro c hc;(repeat(first|exact hc|apply List.mem_cons_of_mem|apply List.mem_append_right))))));(iterate 7 exact rfl))
   |(apply zaw (hs:=(hU _ (by(intro c hc;(repeat(first|exact hc|apply List.mem_cons_of_mem|apply List.mem_append_right))))));(iterate 7 exact rfl))
   |(apply zab;(iterate 5 exact rfl);first|(apply zat hT;exact rfl;exact rfl;(repeat(first|exact List.mem_cons_self|apply List.mem_cons_of_mem|apply List.mem_append_right));exact rfl;exact rfl)|(apply zar hT;exact rfl;exact rfl;(repeat(first|exact List.mem_cons_self|apply List.mem_cons_of_mem|apply List.mem_append_right));exact rfl))
   |(apply zav;(iterate 5 exact rfl);intro _)|(apply zac hT;(iterate 5 exact rfl);intro _)
   |(apply zaf;(iterate 2 exact rfl))|(apply zag;(iterate 2 exact rfl))
   |(apply zal;exact rfl;all_goals intro hb;all_goals(fail_if_success (change true=true at hb));all_goals(fail_if_success (change false=false at hb));all_goals(try dsimp only at hb);all_goals(try simp only[hb]);all_goals(first|replace hb:=of_decide_eq_true hb|replace hb:=of_decide_eq_false hb|replace hb:=zap hb|replace hb:=zaq hb|replace hb:=eq_of_beq hb|replace hb:=ne_of_beq_false hb|skip);all_goals(try(exfalso;omega)))
   |(apply zao;exact rfl;all_goals intro hb;all_goals(try dsimp only at hb);all_goals(try simp only[hb]);all_goals(first|replace hb:=of_decide_eq_true hb|replace hb:=of_decide_eq_false hb|replace hb:=zap hb|replace hb:=zaq hb|replace hb:=eq_of_beq hb|replace hb:=ne_of_beq_false hb|skip);all_goals(try(exfalso;omega))))
  all_goals first
   |(exfalso;omega)
   |exact zaO (k+1) (by(try dsimp only);omega) (by(try dsimp only);omega) ⟨rfl,rfl,rfl,rfl,trivial⟩ dX
   |skip
 ·obtain rfl:k=bs.length:=by omega
  have hd1:decide ((bs.length:Int)<(bs.length:Int))=false:=by simp
  repeat' (first
   |apply zaA|apply zaa|apply zaz|apply zam|apply zan|apply zae|apply zay
   |(apply zaj hT;(iterate 4 exact rfl))|(apply zak;(iterate 3 exact rfl))|(apply zad;(iterate 2 exact rfl))
   |(apply zax hT;(iterate 4 exact rfl);(iterate 2 (first|omega|(dsimp only;omega))))
   |(apply zas [] [] hmix;decide+kernel)
   |(apply zbr [59,60,10,21,61,39] [22] (.step 0 <| .step 1 <| .step 2 <| .step 3 <| .step 4 <| .step 5 <| .step 6 <| .step 7 <| .step 8 <| .step 9 <| .step 10 <| .step 11 <| .step 12 <| .step 13 <| .step 14 <| .step 15 <| .step 16 <| .step 17 <| .step 19 <| .step 18 <| .step 20 <| .step 21 <| .step 22 <| .step 23 <| .step 25 <| .step 27 <| .step 28 <| .step 24 <| .step 26 <| .step 29 <| .step 30 <| .step 31 <| .nil) hmix;decide+kernel)|apply zb5|apply zb6|(apply zbA;exact rfl)
   |(apply zaN (hs:=(hTr _ (by(intro c hc;(repeat(first|exact hc|apply List.mem_cons_of_mem|apply List.mem_append_right))))));(iterate 7 exact rfl);rintro _ _ ⟨A6,c6,rfl,rfl⟩)
   |(apply zaw (hs:=((hHe _ _).mono (by simp)));(iterate 7 exact rfl))
   |(apply zaw (hs:=(hHd _ (by(intro c hc;(repeat(first|exact hc|apply List.mem_cons_of_mem|apply List.mem_append_right))))));(iterate 7 exact rfl))
   |(apply zaw (hs:=(hPo _ (by(intro c hc;(repeat(first|exact hc|apply List.mem_cons_of_mem|apply List.mem_append_right))))));(iterate 7 exact rfl))
   |(apply zaw (hs:=(hSu _ (by(intro c hc;(repeat(first|exact hc|apply List.mem_cons_of_mem|apply List.mem_append_right)))) _ _));(iterate 7 exact rfl))
   |(apply zbY (hs:=(hAs _ (by(intro c hc;(repeat(first|exact hc|apply List.mem_cons_of_mem|apply List.mem_append_right))))));(iterate 7 exact rfl);(rintro _ _ ⟨A7,c7,rfl,rfl⟩;refine⟨[_],rfl,?_⟩))
   |(apply zaw (hs:=((hOn _ _ _ _).mono (by simp)));(iterate 7 exact rfl))
   |(apply zaw (hs:=(hNo _ (by(intro c hc;(repeat(first|exact hc|apply List.mem_cons_of_mem|apply List.mem_append_right))))));(iterate 7 exact rfl))
   |(apply zaw (hs:=(hEn _ _ _));(iterate 7 exact rfl))
   |(apply zab;(iterate 5 exact rfl);first|(apply zat hT;exact rfl;exact rfl;(repeat(first|exact List.mem_cons_self|apply List.mem_cons_of_mem|apply List.mem_append_right));exact rfl;exact rfl)|(apply zar hT;exact rfl;exact rfl;(repeat(first|exact List.mem_cons_self|apply List.mem_cons_of_mem|apply List.mem_append_right));exact rfl))
   |(apply zav;(iterate 5 exact rfl);intro _)|(apply zac hT;(iterate 5 exact rfl);intro _)
   |(apply zaf;(iterate 2 exact rfl))|(apply zag;(iterate 2 exact rfl))
   |(apply zal;exact rfl;all_goals intro hb;all_goals(fail_if_success (change true=true at hb));all_goals(fail_if_success (change false=false at hb));all_goals(try dsimp only at hb);all_goals(try simp only[hb]);all_goals(first|replace hb:=of_decide_eq_true hb|replace hb:=of_decide_eq_false hb|replace hb:=zap hb|replace hb:=zaq hb|replace hb:=eq_of_beq hb|replace hb:=ne_of_beq_false hb|skip);all_goals(try(exfalso;omega)))
   |(apply zao;exact rfl;all_goals intro hb;all_goals(try dsimp only at hb);all_goals(try simp only[hb]);all_goals(first|replace hb:=of_decide_eq_true hb|replace hb:=of_decide_eq_false hb|replace hb:=zap hb|replace hb:=zaq hb|replace hb:=eq_of_beq hb|replace hb:=ne_of_beq_false hb|skip);all_goals(try(exfalso;omega))))
  all_goals first
   |(exfalso;omega)
   |(apply ret1;exact rfl;exact⟨rfl,dX⟩)
   |skip
def ka27 :AskR:=⟨0,0,0,0,0,0,3,0,1,0⟩
theorem zg0 (W:World):zaC Tryz.prog W 12 [] [] (.bool true):=by
 refine zaC.ofD (fun h' hs=> ?_)
 have hR:isR [kb1,kb2] kps 3 50=true:=by decide+kernel
 have hr:=fun k=>zgW W k
 have hN:=fun k g1 g2 (m1:zah.own (some ⟨g1,0,none⟩) 2 2 95 7 ([kb1,kb2].flatMap za1.enc)∈k) (m2:zah.own (some ⟨g2,0,none⟩) 5 5 97 3 (kps.flatMap zaH.enc)∈k)=>
  (zgl W k (some ⟨g1,0,none⟩) 2 [kb1,kb2] (some ⟨g2,0,none⟩) 5 kps 3 50 (zaE.enc za1.enc_len za1.enc_one m1 rfl) (zaE.enc zaH.enc_len zaH.enc_one m2 rfl) (by decide) (by decide)).mono (R':=fun v h'=>∃x bks rows,v=ptrV x.d∧h'=zaU x (zc4 [kb1,kb2] kps 3 50) bks rows k∧zdJ (zc4 [kb1,kb2] kps 3 50) bks rows) (fun v h' hh=>by
    rcases hh with ⟨a,_⟩|⟨_,a⟩
    ·rw[hR]at a;cases a
    ·exact a)
 have hD:=fun k g1 g2 (m1:zah.own (some ⟨g1,0,none⟩) 2 2 95 7 ([kb1,kb2].flatMap za1.enc)∈k) (m2:zah.own (some ⟨g2,0,none⟩) 5 5 97 3 (kps.flatMap zaH.enc)∈k) x bks rows (hf:zdJ (zc4 [kb1,kb2] kps 3 50) bks rows) (hk:∀c∈zaU x (zc4 [kb1,kb2] kps 3 50) bks rows [],c∈k)=>
  zeD W k (some ⟨g1,0,none⟩) 2 [kb1,kb2] (some ⟨g2,0,none⟩) 5 kps 3 50 (zaE.enc za1.enc_len za1.enc_one m1 rfl) (zaE.enc zaH.enc_len zaH.enc_one m2 rfl) hR x (zc4 [kb1,kb2] kps 3 50) bks rows rfl rfl rfl rfl (by unfold psOf;rw[hf.2];rfl) (fun b hb=>by
   have h1:b.l∈bks.map BAd.l:=lmm.2 ⟨b,hb,rfl⟩
   rw[hf.1]at h1
   exact(List.mem_replicate.1 h1).2) (by have h9:=congrArg List.length hf.1;rw[llm]at h9;exact h9) rfl hk
 have hNil:=fun g1 g2=>zdM W (some ⟨g1,0,none⟩) 2 2 (some ⟨g2,0,none⟩) 5 5 3 50
 have hE:=fun k g (m:zah.own (some ⟨g,0,none⟩) 1 1 87 10 (ka27.enc)∈k)=>(zc5 W k (some ⟨g,0,none⟩) 1 [ka27] 5 2 (zaE.enc AskR.enc_len AskR.enc_one m rfl) (by decide) (by unfold inW;omega) (fun a ha=>by
  rw[lms.1 ha]
  show inW 3∧inW (3+2)
  unfold inW;omega)).cast (u:=.bool false) (by rfl)
 refine zau Tryz.func12 rfl rfl Tryz.results12 Tryz.ntmps12 rfl rfl ?_
 repeat' (first
  |apply zaA|apply zaa|apply zaz|apply zam|apply zan|apply zae|apply zay
  |(apply zaj hT;(iterate 4 exact rfl))|(apply zak;(iterate 3 exact rfl))|(apply zad;(iterate 2 exact rfl))
  |(apply zax hT;(iterate 4 exact rfl);(iterate 2 (first|omega|(dsimp only;omega))))
  |(apply zas [] [] hmix;decide+kernel)
  |(apply zaN (hs:=(hr _));(iterate 7 exact rfl);first|((fail_if_success (have q:=ga1));rintro _ _ ⟨ga1,gb1,rfl,rfl⟩)|((fail_if_success (have q:=ga2));rintro _ _ ⟨ga2,gb2,rfl,rfl⟩)|rintro _ _ ⟨ga3,gb3,rfl,rfl⟩)
  |(apply zaN (hs:=(hN _ ga2 gb2 (by(repeat(first|exact List.mem_cons_self|apply List.mem_cons_of_mem|apply List.mem_append_right))) (by(repeat(first|exact List.mem_cons_self|apply List.mem_cons_of_mem|apply List.mem_append_right)))));(iterate 7 exact rfl);rintro _ _ ⟨x,bks,rows,rfl,rfl,hf⟩)
  |(apply zaw (hs:=(hD _ ga1 gb1 (by(repeat(first|exact List.mem_cons_self|apply List.mem_cons_of_mem|apply List.mem_append_right))) (by(repeat(first|exact List.mem_cons_self|apply List.mem_cons_of_mem|apply List.mem_append_right))) x bks rows hf (by intro c hc;(repeat(first|exact zeC c hc|apply List.mem_cons_of_mem)))));(iterate 7 exact rfl))
  |(apply zaw (hs:=((hNil _ _).mono (by simp)));(iterate 7 exact rfl))
  |(apply zaw (hs:=((zco W).mono (by simp)));(iterate 7 exact rfl))
  |(apply zaS hT (cs:=ka27.enc);(iterate 4 exact rfl))
  |(apply zaP hT;(iterate 12 exact rfl);intro g15)
  |(apply zaw (hs:=(hE _ g15 (by(repeat(first|exact List.mem_cons_self|apply List.mem_cons_of_mem|apply List.mem_append_right)))));(iterate 7 exact rfl))
  |(apply zab;(iterate 5 exact rfl);first|(apply zat hT;exact rfl;exact rfl;(repeat(first|exact List.mem_cons_self|apply List.mem_cons_of_mem|apply List.mem_append_right));exact rfl;exact rfl)|(apply zar hT;exact rfl;exact rfl;(repeat(first|exact List.mem_cons_self|apply List.mem_cons_of_mem|apply List.mem_append_right));exact rfl))
  |(apply zav;(iterate 5 exact rfl);intro _)|(apply zac hT;(iterate 5 exact rfl);intro _)
  |(apply zaf;(iterate 2 exact rfl))|(apply zag;(iterate 2 exact rfl))
  |(apply zal;exact rfl;all_goals intro hb;all_goals(fail_if_success (change true=true at hb));all_goals(fail_if_success (change false=false at hb));all_goals(try dsimp only at hb);all_goals(try simp only[hb]);all_goals(first|replace hb:=of_decide_eq_true hb|replace hb:=of_decide_eq_false hb|replace hb:=zap hb|replace hb:=zaq hb|replace hb:=eq_of_beq hb|replace hb:=ne_of_beq_false hb|skip);all_goals(try(exfalso;omega)))
  |(apply zao;exact rfl;all_goals intro hb;all_goals(try dsimp only at hb);all_goals(try simp only[hb]);all_goals(first|replace hb:=of_decide_eq_true hb|replace hb:=of_decide_eq_false hb|replace hb:=zap hb|replace hb:=zaq hb|replace hb:=eq_of_beq hb|replace hb:=ne_of_beq_false hb|skip);all_goals(try(exfalso;omega))))
 all_goals first
  |(exfalso;omega)
  |(apply ret1;exact rfl;exact⟨rfl,by(refine zbb ?_ (zei (x:=x) (s:=zc4 [kb1,kb2] kps 3 50) (bks:=bks) (rows:=rows));exact dX)⟩)
  |skip
end Go.Proofs.YteocfhdocpeokaaGreat
set_option linter.unusedSimpArgs false
set_option linter.unusedVariables false
namespace Go.Proofs.YteocfhdocpeokaaGreat
open Go Go.Sl
attribute [local irreducible] AW ES EP Ld RetQ
set_option maxRecDepth 100000
theorem zf1 (W:World)(h:List zah)(np nb:Int):zaI Tryz.prog W 7 [.int .i64 np,.int .i64 nb] h
 (fun v h'=>(zbv np nb=false∧v=.pointer none∧h'=h)∨(zbv np nb=true∧∃p AC cC AR cR rs,v=.pointer (some ⟨p,0,none⟩)∧h'=zaJ p AC cC AR cR (List.replicate np.toNat 0) rs h∧rs.map PRow.l=List.replicate np.toNat (List.replicate nb.toNat 0))):=by
 refine zaI.dropTo ?_
 refine zau Tryz.func7 rfl rfl Tryz.results7 Tryz.ntmps7 rfl rfl ?_
 by_cases hin:(1≤np∧np≤8)∧(1≤nb∧nb≤4)
 rotate_left
 ·repeat' (first
   |apply zaA|apply zaa|apply zaz|apply zam|apply zan|apply zae|apply zay
   |(apply zaj hT;(iterate 4 exact rfl))|(apply zak;(iterate 3 exact rfl))|(apply zad;(iterate 2 exact rfl))
   |(apply zax hT;(iterate 4 exact rfl);(iterate 2 (first|omega|(dsimp only;omega))))
   |(apply zas [] [] hmix;decide+kernel)
   |(apply zab;(iterate 5 exact rfl);first|(apply zat hT;exact rfl;exact rfl;(repeat(first|exact List.mem_cons_self|apply List.mem_cons_of_mem|apply List.mem_append_right));exact rfl;exact rfl)|(apply zar hT;exact rfl;exact rfl;(repeat(first|exact List.mem_cons_self|apply List.mem_cons_of_mem|apply List.mem_append_right));exact rfl))
   |(apply zav;(iterate 5 exact rfl);intro _)|(apply zac hT;(iterate 5 exact rfl);intro _)
   |(apply zaf;(iterate 2 exact rfl))|(apply zag;(iterate 2 exact rfl))
   |(apply zal;exact rfl;all_goals intro hb;all_goals(fail_if_success (change true=true at hb));all_goals(fail_if_success (change false=false at hb));all_goals(try dsimp only at hb);all_goals(try simp only[hb]);all_goals(first|replace hb:=of_decide_eq_true hb|replace hb:=of_decide_eq_false hb|replace hb:=zap hb|replace hb:=zaq hb|replace hb:=eq_of_beq hb|replace hb:=ne_of_beq_false hb|skip);all_goals(try(exfalso;omega)))
   |(apply zao;exact rfl;all_goals intro hb;all_goals(try dsimp only at hb);all_goals(try simp only[hb]);all_goals(first|replace hb:=of_decide_eq_true hb|replace hb:=of_decide_eq_false hb|replace hb:=zap hb|replace hb:=zaq hb|replace hb:=eq_of_beq hb|replace hb:=ne_of_beq_false hb|skip);all_goals(try(exfalso;omega))))
  all_goals first
   |(exfalso;omega)
   |(apply ret1;exact rfl;exact⟨h,dX,.inl ⟨by unfold zbv;simp;omega,rfl,rfl⟩⟩)
   |skip
 obtain⟨⟨n1,n2⟩,n3,n4⟩:=hin
 have hp:zbv np nb=true:=by unfold zbv;simp;omega
 rw[hp]
 obtain⟨n,rfl⟩:=Int.eq_ofNat_of_zero_le (show 0≤np by omega)
 obtain⟨m,rfl⟩:=Int.eq_ofNat_of_zero_le (show 0≤nb by omega)
 simp only[Int.toNat_natCast]
 repeat' (first
  |apply zaA|apply zaa|apply zaz|apply zam|apply zan|apply zae|apply zay
  |(apply zaj hT;(iterate 4 exact rfl))|(apply zak;(iterate 3 exact rfl))|(apply zad;(iterate 2 exact rfl))
  |(apply zax hT;(iterate 4 exact rfl);(iterate 2 (first|omega|(dsimp only;omega))))
  |(apply zas [] [] hmix;decide+kernel)
  |(apply zbj hT;(iterate 12 exact rfl);(iterate 1 exact rfl);omega;exact Nat.le_of_ble_eq_true rfl;intro g21)
  |(apply zaS hT (cs:=[.slice none 0 0,.slice (some ⟨g21,0,none⟩) n n]);(iterate 4 exact rfl))
  |(apply zav;(iterate 5 exact rfl);intro g23)
  |(apply zab;(iterate 5 exact rfl);first|(apply zat hT;exact rfl;exact rfl;(repeat(first|exact List.mem_cons_self|apply List.mem_cons_of_mem|apply List.mem_append_right));exact rfl;exact rfl)|(apply zar hT;exact rfl;exact rfl;(repeat(first|exact List.mem_cons_self|apply List.mem_cons_of_mem|apply List.mem_append_right));exact rfl))
  |(apply zav;(iterate 5 exact rfl);intro _)|(apply zac hT;(iterate 5 exact rfl);intro _)
  |(apply zaf;(iterate 2 exact rfl))|(apply zag;(iterate 2 exact rfl))
  |(apply zal;exact rfl;all_goals intro hb;all_goals(fail_if_success (change true=true at hb));all_goals(fail_if_success (change false=false at hb));all_goals(try dsimp only at hb);all_goals(try simp only[hb]);all_goals(first|replace hb:=of_decide_eq_true hb|replace hb:=of_decide_eq_false hb|replace hb:=zap hb|replace hb:=zaq hb|replace hb:=eq_of_beq hb|replace hb:=ne_of_beq_false hb|skip);all_goals(try(exfalso;omega)))
  |(apply zao;exact rfl;all_goals intro hb;all_goals(try dsimp only at hb);all_goals(try simp only[hb]);all_goals(first|replace hb:=of_decide_eq_true hb|replace hb:=of_decide_eq_false hb|replace hb:=zap hb|replace hb:=zaq hb|replace hb:=eq_of_beq hb|replace hb:=ne_of_beq_false hb|skip);all_goals(try(exfalso;omega))))
 all_goals try(exfalso;omega)
 refine zbB (fun w hw=>⟨_,hw.own_nil 66 1,?_⟩)
 refine za2 (α:=Nat×Option Addr×Nat×List PRow) (E:=fun x=>[(0,.int .i64 n),(1,.int .i64 m),(5,.pointer (some ⟨g23,0,none⟩)),(6,.int .i64 x.1)])
  (H:=fun x=>zaJ g23 (some ⟨g21,0,none⟩) n x.2.1 x.2.2.1 (List.replicate n 0) x.2.2.2 h) (μ:=fun x=>n - x.1)
  (S:=fun x=>x.1≤n∧x.2.2.2.map PRow.l=List.replicate x.1 (List.replicate m 0)) (0,none,0,[]) ⟨Nat.zero_le _,rfl⟩ ⟨rfl,rfl,rfl,rfl,trivial⟩ (by unfold zaJ;rw[List.map_replicate,List.length_replicate];exact dX) ?_
 rintro⟨k,AR,cR,rs⟩ ⟨hk,hrs⟩
 dsimp only at hk hrs ⊢
 have hlen:rs.length=k:=by have:=congrArg List.length hrs;simpa using this
 by_cases hlt:k<n
 ·have hd1:decide ((k:Int)<(n:Int))=true:=by simp;omega
  unfold zaJ
  repeat' (first
   |apply zaA|apply zaa|apply zaz|apply zam|apply zan|apply zae|apply zay
   |(apply zaj hT;(iterate 4 exact rfl))|(apply zak;(iterate 3 exact rfl))|(apply zad;(iterate 2 exact rfl))
   |(apply zax hT;(iterate 4 exact rfl);(iterate 2 (first|omega|(dsimp only;omega))))
   |(apply zbr [] [] (.step 0 <| .step 1 <| .step 2 <| .step 3 <| .step 4 <| .step 5 <| .step 6 <| .step 7 <| .step 8 <| .step 9 <| .step 10 <| .step 11 <| .nil) hmix;decide+kernel)|apply zb5|apply zb6|(apply zbA;exact rfl)
   |(apply zbj hT;(iterate 12 exact rfl);(iterate 1 exact rfl);omega;exact Nat.le_of_ble_eq_true rfl;intro g33)
   |(apply zaP hT;(iterate 12 exact rfl);intro g34)
   |(apply zbe hT;(iterate 10 exact rfl);exact sX;exact zaE.own mem0 rfl (List.all_eq_true.1 rfl);omega;(show(_:Nat)*24≤_;omega);intro A' c')
   |(apply zaQ hT;(iterate 6 exact rfl);exact sX;(iterate 3 exact rfl);exact Nat.le_of_ble_eq_true rfl)
   |(apply zab;(iterate 5 exact rfl);first|(apply zat hT;exact rfl;exact rfl;(repeat(first|exact List.mem_cons_self|apply List.mem_cons_of_mem|apply List.mem_append_right));exact rfl;exact rfl)|(apply zar hT;exact rfl;exact rfl;(repeat(first|exact List.mem_cons_self|apply List.mem_cons_of_mem|apply List.mem_append_right));exact rfl))
   |(apply zav;(iterate 5 exact rfl);intro _)|(apply zac hT;(iterate 5 exact rfl);intro _)
   |(apply zaf;(iterate 2 exact rfl))|(apply zag;(iterate 2 exact rfl))
   |(apply zal;exact rfl;all_goals intro hb;all_goals(fail_if_success (change true=true at hb));all_goals(fail_if_success (change false=false at hb));all_goals(try dsimp only at hb);all_goals(try simp only[hb]);all_goals(first|replace hb:=of_decide_eq_true hb|replace hb:=of_decide_eq_false hb|replace hb:=zap hb|replace hb:=zaq hb|replace hb:=eq_of_beq hb|replace hb:=ne_of_beq_false hb|skip);all_goals(try(exfalso;omega)))
   |(apply zao;exact rfl;all_goals intro hb;all_goals(try dsimp only at hb);all_goals(try simp only[hb]);all_goals(first|replace hb:=of_decide_eq_true hb|replace hb:=of_decide_eq_false hb|replace hb:=zap hb|replace hb:=zaq hb|replace hb:=eq_of_beq hb|replace hb:=ne_of_beq_false hb|skip);all_goals(try(exfalso;omega))))
  all_goals first
   |(exfalso;omega)
   |(refine zaO (k+1,A',c',rs++[⟨some ⟨g33,0,none⟩,m,List.replicate m 0⟩]) (by dsimp only;omega) ⟨by dsimp only;omega,by dsimp only;rw[List.map_append,hrs,List.replicate_succ'];rfl⟩ ⟨rfl,rfl,rfl,rfl,trivial⟩ ?_
     dsimp only
     rw[lla,List.map_append,List.map_append,List.append_assoc]
     simp only[List.map_cons,List.map_nil,PRow.hd,PRow.ck,List.length_replicate,List.map_replicate,List.length_cons,List.length_nil,List.cons_append,List.nil_append]
     apply za7;exact sX
     apply za7;exact sX
     apply za7;exact sX
     refine zeN ?_
     exact dX)
   |skip
 ·obtain rfl:k=n:=by omega
  have hd1:decide ((k:Int)<(k:Int))=false:=by simp
  repeat' (first
   |apply zaA|apply zaa|apply zaz|apply zam|apply zan|apply zae|apply zay
   |(apply zaj hT;(iterate 4 exact rfl))|(apply zak;(iterate 3 exact rfl))|(apply zad;(iterate 2 exact rfl))
   |(apply zax hT;(iterate 4 exact rfl);(iterate 2 (first|omega|(dsimp only;omega))))
   |(apply zas [] [] hmix;decide+kernel)
   |(apply zab;(iterate 5 exact rfl);first|(apply zat hT;exact rfl;exact rfl;(repeat(first|exact List.mem_cons_self|apply List.mem_cons_of_mem|apply List.mem_append_right));exact rfl;exact rfl)|(apply zar hT;exact rfl;exact rfl;(repeat(first|exact List.mem_cons_self|apply List.mem_cons_of_mem|apply List.mem_append_right));exact rfl))
   |(apply zav;(iterate 5 exact rfl);intro _)|(apply zac hT;(iterate 5 exact rfl);intro _)
   |(apply zaf;(iterate 2 exact rfl))|(apply zag;(iterate 2 exact rfl))
   |(apply zal;exact rfl;all_goals intro hb;all_goals(fail_if_success (change true=true at hb));all_goals(fail_if_success (change false=false at hb));all_goals(try dsimp only at hb);all_goals(try simp only[hb]);all_goals(first|replace hb:=of_decide_eq_true hb|replace hb:=of_decide_eq_false hb|replace hb:=zap hb|replace hb:=zaq hb|replace hb:=eq_of_beq hb|replace hb:=ne_of_beq_false hb|skip);all_goals(try(exfalso;omega)))
   |(apply zao;exact rfl;all_goals intro hb;all_goals(try dsimp only at hb);all_goals(try simp only[hb]);all_goals(first|replace hb:=of_decide_eq_true hb|replace hb:=of_decide_eq_false hb|replace hb:=zap hb|replace hb:=zaq hb|replace hb:=eq_of_beq hb|replace hb:=ne_of_beq_false hb|skip);all_goals(try(exfalso;omega))))
  all_goals first
   |(exfalso;omega)
   |(apply ret1;exact rfl;exact⟨_,zbi,.inr ⟨by trivial,g23,_,_,_,_,_,rfl,rfl,hrs⟩⟩)
theorem zdw (W:World)(h:List zah)(np nb:Nat)(hn:(1≤np∧np≤8)∧1≤nb∧nb≤4):zaI Tryz.prog W 7 [.int .i64 np,.int .i64 nb] h
 (fun v h'=>∃p AC cC AR cR cash rs,v=.pointer (some ⟨p,0,none⟩)∧psOf cash rs=zbo np nb∧h'=zaJ p AC cC AR cR cash rs h):=by
 refine(zf1 W h np nb).mono (fun v h' hh=> ?_)
 rcases hh with ⟨h1,_⟩|⟨_,p,AC,cC,AR,cR,rs,rfl,rfl,hrs⟩
 ·rw[zd1 hn]at h1;cases h1
 ·exact⟨p,AC,cC,AR,cR,_,rs,rfl,by unfold psOf zbo;rw[hrs];rfl,rfl⟩
theorem zej (W:World)(F:List zah)(p:Nat)(AC:Option Addr)(cC:Nat)(AR:Option Addr)(cR:Nat)(cash:List Int)(rs:List PRow)(np nb:Nat)(h1np:1≤np)(hP:PsOK np nb (psOf cash rs))(t:zaG)(hpr:inW t.price)(hqt:inW t.qty):
 zaI Tryz.prog W 9 [.pointer (some ⟨p,0,none⟩),.agg t.enc.toArray] (zaJ p AC cC AR cR cash rs F) (fun v h'=>v=.int .i64 (putE (psOf cash rs) t)∧∃cash' rs',psOf cash' rs'=putP (psOf cash rs) t∧h'=zaJ p AC cC AR cR cash' rs' F):=by
 by_cases hbad:zbh (psOf cash rs) t.buyer t.bond=false∨zbh (psOf cash rs) t.seller t.bond=false∨t.buyer=t.seller∨t.price<1∨t.qty<1
 ·have hE:putE (psOf cash rs) t=1:=by unfold putE;rw[if_pos hbad]
  refine(zd9 W F p AC cC AR cR cash rs np nb h1np hP t hbad).mono (fun v h' hh=> ?_)
  obtain⟨rfl,rfl⟩:=hh
  exact⟨by rw[hE],cash,rs,by unfold putP;rw[if_neg (by rw[hE];omega)],rfl⟩
 ·exact zeu W F p AC cC AR cR cash rs np nb hP t hpr hqt hbad
theorem zfi (W:World)(h:List zah)(np nb:Nat)(hn:(1≤np∧np≤8)∧1≤nb∧nb≤4)(A:Option Addr)(c:Nat)(l:List zaG)(hr:zaE W h A l.length 8 (l.flatMap zaG.enc))(hb:l.length≤1000000)(hok:∀t∈l,inW t.price∧inW t.qty)
 (q:Nat)(AC:Option Addr)(cC:Nat)(AR:Option Addr)(cR:Nat)(cash:List Int)(rs:List PRow)(hP:PsOK np nb (psOf cash rs))(hq:∀c∈zaJ q AC cC AR cR cash rs [],c∈h):
 zaC Tryz.prog W 11 [.int .i64 np,.int .i64 nb,.slice A l.length c,.pointer (some ⟨q,0,none⟩)] h (.bool (zdY np nb l (psOf cash rs))):=by
 refine zaC.ofD (fun h' hs=> ?_)
 have hrd:=hr.mono hs
 have hq':∀c∈zaJ q AC cC AR cR cash rs [],c∈h':=fun c hc=>hs c (hq c hc)
 have hBo:=fun who bond k (hk:∀c∈h',c∈k)=>(zcZ W q AC cC AR cR cash rs np nb hP who bond).mono (h':=k) (fun c hc=>hk c (hq' c hc))
 have hCa:=fun who k (hk:∀c∈h',c∈k)=>(zdp W q AC cC AR cR cash rs np nb hP who).mono (h':=k) (fun c hc=>hk c (hq' c hc))
 have hNw:=fun k=>zdw W k np nb hn
 unfold zdY
 refine zau Tryz.func11 rfl rfl Tryz.results11 Tryz.ntmps11 rfl rfl ?_
 refine zaK hrd rfl (fun hA=> ?_)
 repeat' (first
  |apply zaA|apply zaa|apply zaz|apply zam|apply zan|apply zae|apply zay
  |(apply zaj hT;(iterate 4 exact rfl))|(apply zak;(iterate 3 exact rfl))|(apply zad;(iterate 2 exact rfl))
  |(apply zax hT;(iterate 4 exact rfl);(iterate 2 (first|omega|(dsimp only;omega))))
  |(apply zas [] [] hmix;decide+kernel)
  |(apply zaN (hs:=(hNw _));(iterate 7 exact rfl);rintro _ _ ⟨p,AC2,cC2,AR2,cR2,cash0,rs0,rfl,hz,rfl⟩)
  |(apply zab;(iterate 5 exact rfl);first|(apply zat hT;exact rfl;exact rfl;(repeat(first|exact List.mem_cons_self|apply List.mem_cons_of_mem|apply List.mem_append_right));exact rfl;exact rfl)|(apply zar hT;exact rfl;exact rfl;(repeat(first|exact List.mem_cons_self|apply List.mem_cons_of_mem|apply List.mem_append_right));exact rfl))
  |(apply zav;(iterate 5 exact rfl);intro _)|(apply zac hT;(iterate 5 exact rfl);intro _)
  |(apply zaf;(iterate 2 exact rfl))|(apply zag;(iterate 2 exact rfl))
  |(apply zal;exact rfl;all_goals intro hb;all_goals(fail_if_success (change true=true at hb));all_goals(fail_if_success (change false=false at hb));all_goals(try dsimp only at hb);all_goals(try simp only[hb]);all_goals(first|replace hb:=of_decide_eq_true hb|replace hb:=of_decide_eq_false hb|replace hb:=zap hb|replace hb:=zaq hb|replace hb:=eq_of_beq hb|replace hb:=ne_of_beq_false hb|skip);all_goals(try(exfalso;omega)))
  |(apply zao;exact rfl;all_goals intro hb;all_goals(try dsimp only at hb);all_goals(try simp only[hb]);all_goals(first|replace hb:=of_decide_eq_true hb|replace hb:=of_decide_eq_false hb|replace hb:=zap hb|replace hb:=zaq hb|replace hb:=eq_of_beq hb|replace hb:=ne_of_beq_false hb|skip);all_goals(try(exfalso;omega))))
 all_goals try(exfalso;omega)
 refine za2 (α:=Nat×List Int×List PRow) (E:=fun x=>[(0,.int .i64 np),(1,.int .i64 nb),(2,.slice A l.length c),(3,.pointer (some ⟨q,0,none⟩)),(9,.pointer (some ⟨p,0,none⟩)),(10,.int .i64 x.1)]) (H:=fun x=>zaJ p AC2 cC2 AR2 cR2 x.2.1 x.2.2 h') (μ:=fun x=>l.length - x.1)
  (S:=fun x=>x.1≤l.length∧PsOK np nb (psOf x.2.1 x.2.2)∧zbR l (zbo np nb)=zbR (l.drop x.1) (psOf x.2.1 x.2.2)) (0,cash0,rs0) ⟨Nat.zero_le _,by rw[hz];exact zcj np nb,by rw[hz];rfl⟩ ⟨rfl,rfl,rfl,rfl,rfl,rfl,trivial⟩ dX ?_
 rintro⟨k,cash1,rs1⟩ ⟨hk,hok1,hall⟩
 dsimp only at hk hok1 hall ⊢
 by_cases hlt:k<l.length
 ·obtain⟨t,ht⟩:∃t,l[k]? =some t:=⟨l[k]'(by omega),gge (by omega)⟩
  have ht2:l[(k:Int).toNat]? =some t:=by simpa using ht
  have hA':=hA (by omega)
  have hd1:decide ((k:Int)<(l.length:Int))=true:=by simp;omega
  obtain⟨w1,w2⟩:=hok t (mog ht)
  have hPut:=fun G=>zej W G p AC2 cC2 AR2 cR2 cash1 rs1 np nb (by omega) hok1 t w1 w2
  rw[zcV ht]at hall
  by_cases hE:putE (psOf cash1 rs1) t=0
  ·rw[hE]at hPut
   rw[if_pos hE]at hall
   repeat' (first
    |apply zaA|apply zaa|apply zaz|apply zam|apply zan|apply zae|apply zay
    |(apply zaj hT;(iterate 4 exact rfl))|(apply zak;(iterate 3 exact rfl))|(apply zad;(iterate 2 exact rfl))
    |(apply zax hT;(iterate 4 exact rfl);(iterate 2 (first|omega|(dsimp only;omega))))
    |(apply zas [] [] hmix;decide+kernel)
    |(apply za4 hT;(iterate 8 exact rfl);(iterate 2 omega);exact hA')
    |(apply zab;(iterate 5 exact rfl);exact zbd hT rfl rfl (hrd.mono zbp) zaG.enc_len rfl ht2 rfl)
    |(apply zaN (hs:=(hPut _));(iterate 7 exact rfl);rintro _ _ ⟨rfl,cash2,rs2,hps,rfl⟩)
    |(apply zab;(iterate 5 exact rfl);first|(apply zat hT;exact rfl;exact rfl;(repeat(first|exact List.mem_cons_self|apply List.mem_cons_of_mem|apply List.mem_append_right));exact rfl;exact rfl)|(apply zar hT;exact rfl;exact rfl;(repeat(first|exact List.mem_cons_self|apply List.mem_cons_of_mem|apply List.mem_append_right));exact rfl))
    |(apply zav;(iterate 5 exact rfl);intro _)|(apply zac hT;(iterate 5 exact rfl);intro _)
    |(apply zaf;(iterate 2 exact rfl))|(apply zag;(iterate 2 exact rfl))
    |(apply zal;exact rfl;all_goals intro hb;all_goals(fail_if_success (change true=true at hb));all_goals(fail_if_success (change false=false at hb));all_goals(try dsimp only at hb);all_goals(try simp only[hb]);all_goals(first|replace hb:=of_decide_eq_true hb|replace hb:=of_decide_eq_false hb|replace hb:=zap hb|replace hb:=zaq hb|replace hb:=eq_of_beq hb|replace hb:=ne_of_beq_false hb|skip);all_goals(try(exfalso;omega)))
    |(apply zao;exact rfl;all_goals intro hb;all_goals(try dsimp only at hb);all_goals(try simp only[hb]);all_goals(first|replace hb:=of_decide_eq_true hb|replace hb:=of_decide_eq_false hb|replace hb:=zap hb|replace hb:=zaq hb|replace hb:=eq_of_beq hb|replace hb:=ne_of_beq_false hb|skip);all_goals(try(exfalso;omega))))
   all_goals first
    |(exfalso;omega)
    |exact zaO (k+1,cash2,rs2) (by dsimp only;omega) ⟨by dsimp only;omega,by dsimp only;rw[hps];exact zdH hok1 t,by dsimp only;rw[hps];exact hall⟩ ⟨rfl,rfl,rfl,rfl,rfl,rfl,trivial⟩ dX
    |skip
  ·rw[if_neg hE]at hall
   generalize putE (psOf cash1 rs1) t=e at hPut hE
   repeat' (first
    |apply zaA|apply zaa|apply zaz|apply zam|apply zan|apply zae|apply zay
    |(apply zaj hT;(iterate 4 exact rfl))|(apply zak;(iterate 3 exact rfl))|(apply zad;(iterate 2 exact rfl))
    |(apply zax hT;(iterate 4 exact rfl);(iterate 2 (first|omega|(dsimp only;omega))))
    |(apply zas [] [] hmix;decide+kernel)
    |(apply za4 hT;(iterate 8 exact rfl);(iterate 2 omega);exact hA')
    |(apply zab;(iterate 5 exact rfl);exact zbd hT rfl rfl (hrd.mono zbp) zaG.enc_len rfl ht2 rfl)
    |(apply zaN (hs:=(hPut _));(iterate 7 exact rfl);rintro _ _ ⟨rfl,cash2,rs2,hps,rfl⟩)
    |(apply zab;(iterate 5 exact rfl);first|(apply zat hT;exact rfl;exact rfl;(repeat(first|exact List.mem_cons_self|apply List.mem_cons_of_mem|apply List.mem_append_right));exact rfl;exact rfl)|(apply zar hT;exact rfl;exact rfl;(repeat(first|exact List.mem_cons_self|apply List.mem_cons_of_mem|apply List.mem_append_right));exact rfl))
    |(apply zav;(iterate 5 exact rfl);intro _)|(apply zac hT;(iterate 5 exact rfl);intro _)
    |(apply zaf;(iterate 2 exact rfl))|(apply zag;(iterate 2 exact rfl))
    |(apply zal;exact rfl;all_goals intro hb;all_goals(fail_if_success (change true=true at hb));all_goals(fail_if_success (change false=false at hb));all_goals(try dsimp only at hb);all_goals(try simp only[hb]);all_goals(first|replace hb:=of_decide_eq_true hb|replace hb:=of_decide_eq_false hb|replace hb:=zap hb|replace hb:=zaq hb|replace hb:=eq_of_beq hb|replace hb:=ne_of_beq_false hb|skip);all_goals(try(exfalso;omega)))
    |(apply zao;exact rfl;all_goals intro hb;all_goals(try dsimp only at hb);all_goals(try simp only[hb]);all_goals(first|replace hb:=of_decide_eq_true hb|replace hb:=of_decide_eq_false hb|replace hb:=zap hb|replace hb:=zaq hb|replace hb:=eq_of_beq hb|replace hb:=ne_of_beq_false hb|skip);all_goals(try(exfalso;omega))))
   all_goals first
    |(exfalso;omega)
    |(apply ret1;exact rfl;exact⟨by rw[hall],zbb (show zaL _ (zaJ p AC2 cC2 AR2 cR2 cash2 rs2 h')from dX) zcy⟩)
    |skip
 ·obtain rfl:k=l.length:=by omega
  have hd1:decide ((l.length:Int)<(l.length:Int))=false:=by simp
  rw[List.drop_length]at hall
  rw[hall]
  dsimp only[zbR]
  have hBo1:=fun who bond k (hk:∀c∈zaJ p AC2 cC2 AR2 cR2 cash1 rs1 h',c∈k)=>(zcZ W p AC2 cC2 AR2 cR2 cash1 rs1 np nb hok1 who bond).mono (h':=k) (fun c hc=>hk c (zce c hc))
  have hCa1:=fun who k (hk:∀c∈zaJ p AC2 cC2 AR2 cR2 cash1 rs1 h',c∈k)=>(zdp W p AC2 cC2 AR2 cR2 cash1 rs1 np nb hok1 who).mono (h':=k) (fun c hc=>hk c (zce c hc))
  have hBo2:=fun who bond=>hBo who bond (zaJ p AC2 cC2 AR2 cR2 cash1 rs1 h') zbp
  have hCa2:=fun who=>hCa who (zaJ p AC2 cC2 AR2 cR2 cash1 rs1 h') zbp
  have hdr:zaL (zaJ p AC2 cC2 AR2 cR2 cash1 rs1 h') h':=zcy
  generalize zaJ p AC2 cC2 AR2 cR2 cash1 rs1 h'=H1 at*
  generalize psOf cash1 rs1=w at*
  generalize psOf cash rs=v at*
  repeat' (first
   |apply zaA|apply zaa|apply zaz|apply zam|apply zan|apply zae|apply zay
   |(apply zaj hT;(iterate 4 exact rfl))|(apply zak;(iterate 3 exact rfl))|(apply zad;(iterate 2 exact rfl))
   |(apply zax hT;(iterate 4 exact rfl);(iterate 2 (first|omega|(dsimp only;omega))))
   |(apply zas [] [] hmix;decide+kernel)
   |(apply zab;(iterate 5 exact rfl);first|(apply zat hT;exact rfl;exact rfl;(repeat(first|exact List.mem_cons_self|apply List.mem_cons_of_mem|apply List.mem_append_right));exact rfl;exact rfl)|(apply zar hT;exact rfl;exact rfl;(repeat(first|exact List.mem_cons_self|apply List.mem_cons_of_mem|apply List.mem_append_right));exact rfl))
   |(apply zav;(iterate 5 exact rfl);intro _)|(apply zac hT;(iterate 5 exact rfl);intro _)
   |(apply zaf;(iterate 2 exact rfl))|(apply zag;(iterate 2 exact rfl))
   |(apply zal;exact rfl;all_goals intro hb;all_goals(fail_if_success (change true=true at hb));all_goals(fail_if_success (change false=false at hb));all_goals(try dsimp only at hb);all_goals(try simp only[hb]);all_goals(first|replace hb:=of_decide_eq_true hb|replace hb:=of_decide_eq_false hb|replace hb:=zap hb|replace hb:=zaq hb|replace hb:=eq_of_beq hb|replace hb:=ne_of_beq_false hb|skip);all_goals(try(exfalso;omega)))
   |(apply zao;exact rfl;all_goals intro hb;all_goals(try dsimp only at hb);all_goals(try simp only[hb]);all_goals(first|replace hb:=of_decide_eq_true hb|replace hb:=of_decide_eq_false hb|replace hb:=zap hb|replace hb:=zaq hb|replace hb:=eq_of_beq hb|replace hb:=ne_of_beq_false hb|skip);all_goals(try(exfalso;omega))))
  all_goals try(exfalso;omega)
  refine za2 (α:=Nat) (E:=fun x=>[(0,.int .i64 np),(1,.int .i64 nb),(3,.pointer (some ⟨q,0,none⟩)),(9,.pointer (some ⟨p,0,none⟩)),(11,.int .i64 x)]) (H:=fun x=>H1) (μ:=fun x=>np - x)
   (S:=fun x=>x≤np∧∀j,j<x→zbS nb w v j=true) 0 ⟨Nat.zero_le _,fun j hj=>absurd hj (Nat.not_lt_zero _)⟩ ⟨rfl,rfl,rfl,rfl,rfl,trivial⟩ dX ?_
  rintro k ⟨hk,hgd⟩
  by_cases hlt:k<np
  ·have hd2:decide ((k:Int)<(np:Int))=true:=by simp;omega
   have c1:=hCa1 k
   have c2:=hCa2 k
   repeat' (first
    |apply zaA|apply zaa|apply zaz|apply zam|apply zan|apply zae|apply zay
    |(apply zaj hT;(iterate 4 exact rfl))|(apply zak;(iterate 3 exact rfl))|(apply zad;(iterate 2 exact rfl))
    |(apply zax hT;(iterate 4 exact rfl);(iterate 2 (first|omega|(dsimp only;omega))))
    |(apply zas [] [] hmix;decide+kernel)
    |(apply zab;(iterate 5 exact rfl);first|(apply zat hT;exact rfl;exact rfl;(repeat(first|exact List.mem_cons_self|apply List.mem_cons_of_mem|apply List.mem_append_right));exact rfl;exact rfl)|(apply zar hT;exact rfl;exact rfl;(repeat(first|exact List.mem_cons_self|apply List.mem_cons_of_mem|apply List.mem_append_right));exact rfl))
    |(apply zav;(iterate 5 exact rfl);intro _)|(apply zac hT;(iterate 5 exact rfl);intro _)
    |(apply zaf;(iterate 2 exact rfl))|(apply zag;(iterate 2 exact rfl))
    |(apply zal;exact rfl;all_goals intro hb;all_goals(fail_if_success (change true=true at hb));all_goals(fail_if_success (change false=false at hb));all_goals(try dsimp only at hb);all_goals(try simp only[hb]);all_goals(first|replace hb:=of_decide_eq_true hb|replace hb:=of_decide_eq_false hb|replace hb:=zap hb|replace hb:=zaq hb|replace hb:=eq_of_beq hb|replace hb:=ne_of_beq_false hb|skip);all_goals(try(exfalso;omega)))
    |(apply zao;exact rfl;all_goals intro hb;all_goals(try dsimp only at hb);all_goals(try simp only[hb]);all_goals(first|replace hb:=of_decide_eq_true hb|replace hb:=of_decide_eq_false hb|replace hb:=zap hb|replace hb:=zaq hb|replace hb:=eq_of_beq hb|replace hb:=ne_of_beq_false hb|skip);all_goals(try(exfalso;omega))))
   all_goals try(exfalso;omega)
   refine za2 (α:=Nat) (E:=fun x=>[(0,.int .i64 np),(1,.int .i64 nb),(3,.pointer (some ⟨q,0,none⟩)),(9,.pointer (some ⟨p,0,none⟩)),(11,.int .i64 k),(12,.int .i64 x)]) (H:=fun x=>H1) (μ:=fun x=>nb - x)
    (S:=fun x=>x≤nb∧∀i:Nat,i<x→za8 w k i=za8 v k i) 0 ⟨Nat.zero_le _,fun j hj=>absurd hj (Nat.not_lt_zero _)⟩ ⟨rfl,rfl,rfl,rfl,rfl,rfl,trivial⟩ dX ?_
   rintro m ⟨hm,hgm⟩
   by_cases hlm:m<nb
   ·have hd3:decide ((m:Int)<(nb:Int))=true:=by simp;omega
    have b1:=hBo1 k m
    have b2:=hBo2 k m
    by_cases hbq:za8 w k m=za8 v k m
    ·rw[hbq]at b1
     generalize hbv:za8 v k m=bv at b1 b2 hbq
     repeat' (first
      |(apply zcE hT;(iterate 5 exact rfl))
      |apply zaA|apply zaa|apply zaz|apply zam|apply zan|apply zae|apply zay
      |(apply zaj hT;(iterate 4 exact rfl))|(apply zak;(iterate 3 exact rfl))|(apply zad;(iterate 2 exact rfl))
      |(apply zax hT;(iterate 4 exact rfl);(iterate 2 (first|omega|(dsimp only;omega))))
      |(apply zas [] [] hmix;decide+kernel)
      |(apply zaw (hs:=(b1 _ (by(intro c hc;(repeat(first|exact hc|apply List.mem_cons_of_mem|apply List.mem_append_right))))));(iterate 7 exact rfl))
      |(apply zaw (hs:=(b2.mono (by(intro c hc;(repeat(first|exact hc|apply List.mem_cons_of_mem|apply List.mem_append_right))))));(iterate 7 exact rfl))
      |(apply zab;(iterate 5 exact rfl);first|(apply zat hT;exact rfl;exact rfl;(repeat(first|exact List.mem_cons_self|apply List.mem_cons_of_mem|apply List.mem_append_right));exact rfl;exact rfl)|(apply zar hT;exact rfl;exact rfl;(repeat(first|exact List.mem_cons_self|apply List.mem_cons_of_mem|apply List.mem_append_right));exact rfl))
      |(apply zav;(iterate 5 exact rfl);intro _)|(apply zac hT;(iterate 5 exact rfl);intro _)
      |(apply zaf;(iterate 2 exact rfl))|(apply zag;(iterate 2 exact rfl))
      |(apply zal;exact rfl;all_goals intro hb;all_goals(fail_if_success (change true=true at hb));all_goals(fail_if_success (change false=false at hb));all_goals(try dsimp only at hb);all_goals(try simp only[hb]);all_goals(first|replace hb:=of_decide_eq_true hb|replace hb:=of_decide_eq_false hb|replace hb:=zap hb|replace hb:=zaq hb|replace hb:=eq_of_beq hb|replace hb:=ne_of_beq_false hb|skip);all_goals(try(exfalso;omega)))
      |(apply zao;exact rfl;all_goals intro hb;all_goals(try dsimp only at hb);all_goals(try simp only[hb]);all_goals(first|replace hb:=of_decide_eq_true hb|replace hb:=of_decide_eq_false hb|replace hb:=zap hb|replace hb:=zaq hb|replace hb:=eq_of_beq hb|replace hb:=ne_of_beq_false hb|skip);all_goals(try(exfalso;omega))))
     all_goals first
      |(exfalso;omega)
      |exact zaO (m+1) (by(try dsimp only);omega) ⟨by(try dsimp only);omega,fun i hi=>by
        by_cases e:i=m
        ·rw[e,hbq,hbv]
        ·exact hgm i (by(try dsimp only at hi);omega)⟩ ⟨rfl,rfl,rfl,rfl,rfl,rfl,trivial⟩ dX
      |skip
    ·have hno:eqPs np nb w v=false:=zdI hlt (zd4 hlm hbq)
     generalize za8 w k m=bw at b1 hbq
     generalize za8 v k m=bv at b2 hbq
     repeat' (first
      |apply zaA|apply zaa|apply zaz|apply zam|apply zan|apply zae|apply zay
      |(apply zaj hT;(iterate 4 exact rfl))|(apply zak;(iterate 3 exact rfl))|(apply zad;(iterate 2 exact rfl))
      |(apply zax hT;(iterate 4 exact rfl);(iterate 2 (first|omega|(dsimp only;omega))))
      |(apply zas [] [] hmix;decide+kernel)
      |(apply zaw (hs:=(b1 _ (by(intro c hc;(repeat(first|exact hc|apply List.mem_cons_of_mem|apply List.mem_append_right))))));(iterate 7 exact rfl))
      |(apply zaw (hs:=(b2.mono (by(intro c hc;(repeat(first|exact hc|apply List.mem_cons_of_mem|apply List.mem_append_right))))));(iterate 7 exact rfl))
      |(apply zab;(iterate 5 exact rfl);first|(apply zat hT;exact rfl;exact rfl;(repeat(first|exact List.mem_cons_self|apply List.mem_cons_of_mem|apply List.mem_append_right));exact rfl;exact rfl)|(apply zar hT;exact rfl;exact rfl;(repeat(first|exact List.mem_cons_self|apply List.mem_cons_of_mem|apply List.mem_append_right));exact rfl))
      |(apply zav;(iterate 5 exact rfl);intro _)|(apply zac hT;(iterate 5 exact rfl);intro _)
      |(apply zaf;(iterate 2 exact rfl))|(apply zag;(iterate 2 exact rfl))
      |(apply zal;exact rfl;all_goals intro hb;all_goals(fail_if_success (change true=true at hb));all_goals(fail_if_success (change false=false at hb));all_goals(try dsimp only at hb);all_goals(try simp only[hb]);all_goals(first|replace hb:=of_decide_eq_true hb|replace hb:=of_decide_eq_false hb|replace hb:=zap hb|replace hb:=zaq hb|replace hb:=eq_of_beq hb|replace hb:=ne_of_beq_false hb|skip);all_goals(try(exfalso;omega)))
      |(apply zao;exact rfl;all_goals intro hb;all_goals(try dsimp only at hb);all_goals(try simp only[hb]);all_goals(first|replace hb:=of_decide_eq_true hb|replace hb:=of_decide_eq_false hb|replace hb:=zap hb|replace hb:=zaq hb|replace hb:=eq_of_beq hb|replace hb:=ne_of_beq_false hb|skip);all_goals(try(exfalso;omega))))
     all_goals first
      |(exfalso;omega)
      |(apply ret1;exact rfl;exact⟨by rw[hno],zbb (show zaL _ H1 from dX) hdr⟩)
      |skip
   ·obtain rfl:m=nb:=by omega
    have hd3:decide ((m:Int)<(m:Int))=false:=by simp
    by_cases hc:za0 w k=za0 v k
    ·have hone:zbS m w v k=true:=zd3 hc hgm
     rw[hc]at c1
     generalize za0 v k=cv at c1 c2 hc
     repeat' (first
      |(apply zcE hT;(iterate 5 exact rfl))
      |apply zaA|apply zaa|apply zaz|apply zam|apply zan|apply zae|apply zay
      |(apply zaj hT;(iterate 4 exact rfl))|(apply zak;(iterate 3 exact rfl))|(apply zad;(iterate 2 exact rfl))
      |(apply zax hT;(iterate 4 exact rfl);(iterate 2 (first|omega|(dsimp only;omega))))
      |(apply zas [] [] hmix;decide+kernel)
      |(apply zaw (hs:=(c1 _ (by(intro c hc;(repeat(first|exact hc|apply List.mem_cons_of_mem|apply List.mem_append_right))))));(iterate 7 exact rfl))
      |(apply zaw (hs:=(c2.mono (by(intro c hc;(repeat(first|exact hc|apply List.mem_cons_of_mem|apply List.mem_append_right))))));(iterate 7 exact rfl))
      |(apply zab;(iterate 5 exact rfl);first|(apply zat hT;exact rfl;exact rfl;(repeat(first|exact List.mem_cons_self|apply List.mem_cons_of_mem|apply List.mem_append_right));exact rfl;exact rfl)|(apply zar hT;exact rfl;exact rfl;(repeat(first|exact List.mem_cons_self|apply List.mem_cons_of_mem|apply List.mem_append_right));exact rfl))
      |(apply zav;(iterate 5 exact rfl);intro _)|(apply zac hT;(iterate 5 exact rfl);intro _)
      |(apply zaf;(iterate 2 exact rfl))|(apply zag;(iterate 2 exact rfl))
      |(apply zal;exact rfl;all_goals intro hb;all_goals(fail_if_success (change true=true at hb));all_goals(fail_if_success (change false=false at hb));all_goals(try dsimp only at hb);all_goals(try simp only[hb]);all_goals(first|replace hb:=of_decide_eq_true hb|replace hb:=of_decide_eq_false hb|replace hb:=zap hb|replace hb:=zaq hb|replace hb:=eq_of_beq hb|replace hb:=ne_of_beq_false hb|skip);all_goals(try(exfalso;omega)))
      |(apply zao;exact rfl;all_goals intro hb;all_goals(try dsimp only at hb);all_goals(try simp only[hb]);all_goals(first|replace hb:=of_decide_eq_true hb|replace hb:=of_decide_eq_false hb|replace hb:=zap hb|replace hb:=zaq hb|replace hb:=eq_of_beq hb|replace hb:=ne_of_beq_false hb|skip);all_goals(try(exfalso;omega))))
     all_goals first
      |(exfalso;omega)
      |exact zaO (k+1) (by(try dsimp only);omega) ⟨by(try dsimp only);omega,zd2 (np:=np) hgd hone⟩ ⟨rfl,rfl,rfl,rfl,rfl,trivial⟩ dX
      |skip
    ·have hno:eqPs np m w v=false:=zdI hlt (zdm hc)
     generalize za0 w k=cw at c1 hc
     generalize za0 v k=cv at c2 hc
     repeat' (first
      |apply zaA|apply zaa|apply zaz|apply zam|apply zan|apply zae|apply zay
      |(apply zaj hT;(iterate 4 exact rfl))|(apply zak;(iterate 3 exact rfl))|(apply zad;(iterate 2 exact rfl))
      |(apply zax hT;(iterate 4 exact rfl);(iterate 2 (first|omega|(dsimp only;omega))))
      |(apply zas [] [] hmix;decide+kernel)
      |(apply zaw (hs:=(c1 _ (by(intro c hc;(repeat(first|exact hc|apply List.mem_cons_of_mem|apply List.mem_append_right))))));(iterate 7 exact rfl))
      |(apply zaw (hs:=(c2.mono (by(intro c hc;(repeat(first|exact hc|apply List.mem_cons_of_mem|apply List.mem_append_right))))));(iterate 7 exact rfl))
      |(apply zab;(iterate 5 exact rfl);first|(apply zat hT;exact rfl;exact rfl;(repeat(first|exact List.mem_cons_self|apply List.mem_cons_of_mem|apply List.mem_append_right));exact rfl;exact rfl)|(apply zar hT;exact rfl;exact rfl;(repeat(first|exact List.mem_cons_self|apply List.mem_cons_of_mem|apply List.mem_append_right));exact rfl))
      |(apply zav;(iterate 5 exact rfl);intro _)|(apply zac hT;(iterate 5 exact rfl);intro _)
      |(apply zaf;(iterate 2 exact rfl))|(apply zag;(iterate 2 exact rfl))
      |(apply zal;exact rfl;all_goals intro hb;all_goals(fail_if_success (change true=true at hb));all_goals(fail_if_success (change false=false at hb));all_goals(try dsimp only at hb);all_goals(try simp only[hb]);all_goals(first|replace hb:=of_decide_eq_true hb|replace hb:=of_decide_eq_false hb|replace hb:=zap hb|replace hb:=zaq hb|replace hb:=eq_of_beq hb|replace hb:=ne_of_beq_false hb|skip);all_goals(try(exfalso;omega)))
      |(apply zao;exact rfl;all_goals intro hb;all_goals(try dsimp only at hb);all_goals(try simp only[hb]);all_goals(first|replace hb:=of_decide_eq_true hb|replace hb:=of_decide_eq_false hb|replace hb:=zap hb|replace hb:=zaq hb|replace hb:=eq_of_beq hb|replace hb:=ne_of_beq_false hb|skip);all_goals(try(exfalso;omega))))
     all_goals first
      |(exfalso;omega)
      |(apply ret1;exact rfl;exact⟨by rw[hno],zbb (show zaL _ H1 from dX) hdr⟩)
      |skip
  ·obtain rfl:k=np:=by omega
   have hd2:decide ((k:Int)<(k:Int))=false:=by simp
   repeat' (first
    |apply zaA|apply zaa|apply zaz|apply zam|apply zan|apply zae|apply zay
    |(apply zaj hT;(iterate 4 exact rfl))|(apply zak;(iterate 3 exact rfl))|(apply zad;(iterate 2 exact rfl))
    |(apply zax hT;(iterate 4 exact rfl);(iterate 2 (first|omega|(dsimp only;omega))))
    |(apply zas [] [] hmix;decide+kernel)
    |(apply zab;(iterate 5 exact rfl);first|(apply zat hT;exact rfl;exact rfl;(repeat(first|exact List.mem_cons_self|apply List.mem_cons_of_mem|apply List.mem_append_right));exact rfl;exact rfl)|(apply zar hT;exact rfl;exact rfl;(repeat(first|exact List.mem_cons_self|apply List.mem_cons_of_mem|apply List.mem_append_right));exact rfl))
    |(apply zav;(iterate 5 exact rfl);intro _)|(apply zac hT;(iterate 5 exact rfl);intro _)
    |(apply zaf;(iterate 2 exact rfl))|(apply zag;(iterate 2 exact rfl))
    |(apply zal;exact rfl;all_goals intro hb;all_goals(fail_if_success (change true=true at hb));all_goals(fail_if_success (change false=false at hb));all_goals(try dsimp only at hb);all_goals(try simp only[hb]);all_goals(first|replace hb:=of_decide_eq_true hb|replace hb:=of_decide_eq_false hb|replace hb:=zap hb|replace hb:=zaq hb|replace hb:=eq_of_beq hb|replace hb:=ne_of_beq_false hb|skip);all_goals(try(exfalso;omega)))
    |(apply zao;exact rfl;all_goals intro hb;all_goals(try dsimp only at hb);all_goals(try simp only[hb]);all_goals(first|replace hb:=of_decide_eq_true hb|replace hb:=of_decide_eq_false hb|replace hb:=zap hb|replace hb:=zaq hb|replace hb:=eq_of_beq hb|replace hb:=ne_of_beq_false hb|skip);all_goals(try(exfalso;omega))))
   all_goals first
    |(exfalso;omega)
    |(apply ret1;exact rfl;exact⟨by rw[zeX hgd],zbb (show zaL _ H1 from dX) hdr⟩)
    |skip
def zcz (l:List zaG)(p:Ps):Ps:=l.foldl putP p
theorem zeE {l:List zaG}{k:Nat}{t:zaG}(h:l[k]? =some t)(p:Ps):zcz (l.take (k+1)) p=putP (zcz (l.take k) p) t:=by
 rw[List.take_add_one,h]
 simp[zcz,List.foldl_append]
theorem zeF (W:World)(h:List zah)(q:Nat)(A:Option Addr)(c n:Nat):zaC Tryz.prog W 10 [.int .i64 0,.int .i64 2,.slice A n c,.pointer (some ⟨q,0,none⟩)] [] (.bool false):=by
 refine zaC.ofD (fun h' hs=> ?_)
 have hNw:=fun k=>(zeo W k 0 2).mono (R':=fun v h'=>v=.pointer none∧h'=k) (fun v h' hh=>by
  rcases hh with ⟨_,a,b⟩|⟨a,_⟩
  ·exact⟨a,b⟩
  ·exact absurd a (by decide))
 refine zau Tryz.func10 rfl rfl Tryz.results10 Tryz.ntmps10 rfl rfl ?_
 repeat' (first
  |apply zaA|apply zaa|apply zaz|apply zam|apply zan|apply zae|apply zay
  |(apply zaj hT;(iterate 4 exact rfl))|(apply zak;(iterate 3 exact rfl))|(apply zad;(iterate 2 exact rfl))
  |(apply zax hT;(iterate 4 exact rfl);(iterate 2 (first|omega|(dsimp only;omega))))
  |(apply zas [] [] hmix;decide+kernel)
  |(apply zaN (hs:=(hNw _));(iterate 7 exact rfl);rintro _ _ ⟨rfl,rfl⟩)
  |(apply zab;(iterate 5 exact rfl);first|(apply zat hT;exact rfl;exact rfl;(repeat(first|exact List.mem_cons_self|apply List.mem_cons_of_mem|apply List.mem_append_right));exact rfl;exact rfl)|(apply zar hT;exact rfl;exact rfl;(repeat(first|exact List.mem_cons_self|apply List.mem_cons_of_mem|apply List.mem_append_right));exact rfl))
  |(apply zav;(iterate 5 exact rfl);intro _)|(apply zac hT;(iterate 5 exact rfl);intro _)
  |(apply zaf;(iterate 2 exact rfl))|(apply zag;(iterate 2 exact rfl))
  |(apply zal;exact rfl;all_goals intro hb;all_goals(fail_if_success (change true=true at hb));all_goals(fail_if_success (change false=false at hb));all_goals(try dsimp only at hb);all_goals(try simp only[hb]);all_goals(first|replace hb:=of_decide_eq_true hb|replace hb:=of_decide_eq_false hb|replace hb:=zap hb|replace hb:=zaq hb|replace hb:=eq_of_beq hb|replace hb:=ne_of_beq_false hb|skip);all_goals(try(exfalso;omega)))
  |(apply zao;exact rfl;all_goals intro hb;all_goals(try dsimp only at hb);all_goals(try simp only[hb]);all_goals(first|replace hb:=of_decide_eq_true hb|replace hb:=of_decide_eq_false hb|replace hb:=zap hb|replace hb:=zaq hb|replace hb:=eq_of_beq hb|replace hb:=ne_of_beq_false hb|skip);all_goals(try(exfalso;omega))))
 all_goals first
  |(exfalso;omega)
  |(apply ret1;exact rfl;exact⟨rfl,dX⟩)
  |skip
theorem zgx (W:World)(A0:Option Addr)(c0:Nat)(put:List zaG)(hr0:zaE W [] A0 put.length 8 (put.flatMap zaG.enc))(ok0:∀x∈put,zaG.ok x)(A1:Option Addr)(c1:Nat)(l:List zaG)(hr1:zaE W [] A1 l.length 8 (l.flatMap zaG.enc))(ok1:∀x∈l,zaG.ok x):
 zaI Tryz.prog W 3 [.slice A0 put.length c0,.slice A1 l.length c1] [] (fun v _=>v=.bool true):=by
 have hw:∀t:zaG,zaG.ok t→inW t.price∧inW t.qty:=fun t h=>by
  unfold zaG.ok at h
  exact⟨h.2.2.2.2.1,h.2.2.2.2.2.1⟩
 refine zau Tryz.func3 rfl rfl Tryz.results3 Tryz.ntmps3 rfl rfl ?_
 refine zaK hr0 rfl (fun hA=> ?_)
 by_cases hg:put.length≤40∧l.length≤40
 rotate_left
 ·repeat' (first
   |apply zaA|apply zaa|apply zaz|apply zam|apply zan|apply zae|apply zay
   |(apply zaj hT;(iterate 4 exact rfl))|(apply zak;(iterate 3 exact rfl))|(apply zad;(iterate 2 exact rfl))
   |(apply zax hT;(iterate 4 exact rfl);(iterate 2 (first|omega|(dsimp only;omega))))
   |(apply zas [] [] hmix;decide+kernel)
   |(apply zab;(iterate 5 exact rfl);first|(apply zat hT;exact rfl;exact rfl;(repeat(first|exact List.mem_cons_self|apply List.mem_cons_of_mem|apply List.mem_append_right));exact rfl;exact rfl)|(apply zar hT;exact rfl;exact rfl;(repeat(first|exact List.mem_cons_self|apply List.mem_cons_of_mem|apply List.mem_append_right));exact rfl))
   |(apply zav;(iterate 5 exact rfl);intro _)|(apply zac hT;(iterate 5 exact rfl);intro _)
   |(apply zaf;(iterate 2 exact rfl))|(apply zag;(iterate 2 exact rfl))
   |(apply zal;exact rfl;all_goals intro hb;all_goals(fail_if_success (change true=true at hb));all_goals(fail_if_success (change false=false at hb));all_goals(try dsimp only at hb);all_goals(try simp only[hb]);all_goals(first|replace hb:=of_decide_eq_true hb|replace hb:=of_decide_eq_false hb|replace hb:=zap hb|replace hb:=zaq hb|replace hb:=eq_of_beq hb|replace hb:=ne_of_beq_false hb|skip);all_goals(try(exfalso;omega)))
   |(apply zao;exact rfl;all_goals intro hb;all_goals(try dsimp only at hb);all_goals(try simp only[hb]);all_goals(first|replace hb:=of_decide_eq_true hb|replace hb:=of_decide_eq_false hb|replace hb:=zap hb|replace hb:=zaq hb|replace hb:=eq_of_beq hb|replace hb:=ne_of_beq_false hb|skip);all_goals(try(exfalso;omega))))
  all_goals first
   |(exfalso;omega)
   |(apply ret1;exact rfl;exact rfl)
   |skip
 ·have hN1:=fun k=>zeW W k 4 2 (by omega)
  have hN2:=fun k=>zdw W k 4 2 (by omega)
  have hz:=zcj 4 2
  repeat' (first
   |apply zaA|apply zaa|apply zaz|apply zam|apply zan|apply zae|apply zay
   |(apply zaj hT;(iterate 4 exact rfl))|(apply zak;(iterate 3 exact rfl))|(apply zad;(iterate 2 exact rfl))
   |(apply zax hT;(iterate 4 exact rfl);(iterate 2 (first|omega|(dsimp only;omega))))
   |(apply zas [] [] hmix;decide+kernel)
   |(apply zaN (hs:=(hN1 _));(iterate 7 exact rfl);rintro _ _ ⟨p,AC,cC,AR,cR,cash0,rs0,rfl,hz1,rfl⟩)
   |(apply zaN (hs:=(hN2 _));(iterate 7 exact rfl);rintro _ _ ⟨q,BC,dC,BR,dR,cash5,rs5,rfl,hz2,rfl⟩)
   |(apply zab;(iterate 5 exact rfl);first|(apply zat hT;exact rfl;exact rfl;(repeat(first|exact List.mem_cons_self|apply List.mem_cons_of_mem|apply List.mem_append_right));exact rfl;exact rfl)|(apply zar hT;exact rfl;exact rfl;(repeat(first|exact List.mem_cons_self|apply List.mem_cons_of_mem|apply List.mem_append_right));exact rfl))
   |(apply zav;(iterate 5 exact rfl);intro _)|(apply zac hT;(iterate 5 exact rfl);intro _)
   |(apply zaf;(iterate 2 exact rfl))|(apply zag;(iterate 2 exact rfl))
   |(apply zal;exact rfl;all_goals intro hb;all_goals(fail_if_success (change true=true at hb));all_goals(fail_if_success (change false=false at hb));all_goals(try dsimp only at hb);all_goals(try simp only[hb]);all_goals(first|replace hb:=of_decide_eq_true hb|replace hb:=of_decide_eq_false hb|replace hb:=zap hb|replace hb:=zaq hb|replace hb:=eq_of_beq hb|replace hb:=ne_of_beq_false hb|skip);all_goals(try(exfalso;omega)))
   |(apply zao;exact rfl;all_goals intro hb;all_goals(try dsimp only at hb);all_goals(try simp only[hb]);all_goals(first|replace hb:=of_decide_eq_true hb|replace hb:=of_decide_eq_false hb|replace hb:=zap hb|replace hb:=zaq hb|replace hb:=eq_of_beq hb|replace hb:=ne_of_beq_false hb|skip);all_goals(try(exfalso;omega))))
  all_goals try(exfalso;omega)
  refine za2 (α:=Nat×(List Int×List PRow)×(List Int×List PRow)) (E:=fun x=>[(0,.slice A0 put.length c0),(1,.slice A1 l.length c1),(5,.pointer (some ⟨p,0,none⟩)),(6,.pointer (some ⟨q,0,none⟩)),(7,.int .i64 x.1)])
   (H:=fun x=>zaJ q BC dC BR dR x.2.2.1 x.2.2.2 (zaM p AC cC AR cR x.2.1.1 x.2.1.2 [])) (μ:=fun x=>put.length - x.1)
   (S:=fun x=>x.1≤put.length∧psOf x.2.1.1 x.2.1.2=zcz (put.take x.1) (zbo 4 2)∧psOf x.2.2.1 x.2.2.2=zcz (put.take x.1) (zbo 4 2)∧PsOK 4 2 (zcz (put.take x.1) (zbo 4 2))) (0,(cash0,rs0),(cash5,rs5)) ⟨Nat.zero_le _,hz1,hz2,hz⟩ ⟨rfl,rfl,rfl,rfl,rfl,trivial⟩ dX ?_
  rintro⟨k,⟨ca,ra⟩,⟨cb,rb⟩⟩ ⟨hk,e1,e2,hok⟩
  dsimp only at hk e1 e2 hok ⊢
  by_cases hlt:k<put.length
  ·obtain⟨t,ht⟩:∃t,put[k]? =some t:=⟨put[k]'(by omega),gge (by omega)⟩
   have ht2:put[(k:Int).toNat]? =some t:=by simpa using ht
   have hA':=hA (by omega)
   have hd1:decide ((k:Int)<(put.length:Int))=true:=by simp;omega
   obtain⟨w1,w2⟩:=hw t (ok0 t (mog ht))
   have hst:=zeE ht (zbo 4 2)
   generalize zcz (put.take k) (zbo 4 2)=st at*
   have hP1:=fun G=>zfy W G p AC cC AR cR ca ra 4 2 (by rw[e1];exact hok) t w1 w2
   have hP2:=fun G=>zej W G q BC dC BR dR cb rb 4 2 (by omega) (by rw[e2];exact hok) t w1 w2
   rw[e1]at hP1
   rw[e2]at hP2
   repeat' (first
    |apply zaA|apply zaa|apply zaz|apply zam|apply zan|apply zae|apply zay
    |(apply zaj hT;(iterate 4 exact rfl))|(apply zak;(iterate 3 exact rfl))|(apply zad;(iterate 2 exact rfl))
    |(apply zax hT;(iterate 4 exact rfl);(iterate 2 (first|omega|(dsimp only;omega))))
    |(apply zas [] [] hmix;decide+kernel)
    |(apply za4 hT;(iterate 8 exact rfl);(iterate 2 omega);exact hA')
    |(apply zab;(iterate 5 exact rfl);exact zbd hT rfl rfl (hr0.mono (fun c hc=>by cases hc)) zaG.enc_len rfl ht2 rfl)
    |(apply zaN (hs:=(zaI.perm (hP1 _) pX));(iterate 7 exact rfl);rintro _ _ ⟨rfl,ca2,ra2,hs1,rfl⟩)
    |(apply zaN (hs:=(zaI.perm (hP2 _) pX));(iterate 7 exact rfl);rintro _ _ ⟨rfl,cb2,rb2,hs2,rfl⟩)
    |(apply zab;(iterate 5 exact rfl);first|(apply zat hT;exact rfl;exact rfl;(repeat(first|exact List.mem_cons_self|apply List.mem_cons_of_mem|apply List.mem_append_right));exact rfl;exact rfl)|(apply zar hT;exact rfl;exact rfl;(repeat(first|exact List.mem_cons_self|apply List.mem_cons_of_mem|apply List.mem_append_right));exact rfl))
    |(apply zav;(iterate 5 exact rfl);intro _)|(apply zac hT;(iterate 5 exact rfl);intro _)
    |(apply zaf;(iterate 2 exact rfl))|(apply zag;(iterate 2 exact rfl))
    |(apply zal;exact rfl;all_goals intro hb;all_goals(fail_if_success (change true=true at hb));all_goals(fail_if_success (change false=false at hb));all_goals(try dsimp only at hb);all_goals(try simp only[hb]);all_goals(first|replace hb:=of_decide_eq_true hb|replace hb:=of_decide_eq_false hb|replace hb:=zap hb|replace hb:=zaq hb|replace hb:=eq_of_beq hb|replace hb:=ne_of_beq_false hb|skip);all_goals(try(exfalso;omega)))
    |(apply zao;exact rfl;all_goals intro hb;all_goals(try dsimp only at hb);all_goals(try simp only[hb]);all_goals(first|replace hb:=of_decide_eq_true hb|replace hb:=of_decide_eq_false hb|replace hb:=zap hb|replace hb:=zaq hb|replace hb:=eq_of_beq hb|replace hb:=ne_of_beq_false hb|skip);all_goals(try(exfalso;omega))))
   all_goals first
    |(exfalso;omega)
    |exact zaO (k+1,(ca2,ra2),(cb2,rb2)) (by dsimp only;omega) ⟨by dsimp only;omega,by dsimp only;rw[hs1,hst],by dsimp only;rw[hs2,hst],by dsimp only;rw[hst];exact zdH hok t⟩ ⟨rfl,rfl,rfl,rfl,rfl,trivial⟩ (by unfold zaM zaJ;exact dX)
    |skip
  ·obtain rfl:k=put.length:=by omega
   have hd1:decide ((put.length:Int)<(put.length:Int))=false:=by simp
   generalize zcz (put.take put.length) (zbo 4 2)=st at*
   have hS1:=(zdo W (zaJ q BC dC BR dR cb rb (zaM p AC cC AR cR ca ra [])) 4 2 (by omega) A1 c1 l (hr1.mono (fun c hc=>by cases hc)) (by omega) (fun t ht=>hw t (ok1 t ht)) p AC cC AR cR ca ra (by rw[e1];exact hok) (fun c hc=>zbp c hc)).cast (u:=.bool (zdY 4 2 l st)) (by rw[e1])
   have hS2:=(zfi W (zaJ q BC dC BR dR cb rb (zaM p AC cC AR cR ca ra [])) 4 2 (by omega) A1 c1 l (hr1.mono (fun c hc=>by cases hc)) (by omega) (fun t ht=>hw t (ok1 t ht)) q BC dC BR dR cb rb (by rw[e2];exact hok) (fun c hc=>zce c hc)).cast (u:=.bool (zdY 4 2 l st)) (by rw[e2])
   have hS3:=zeF W [] p none 0 0
   have hk:=zg0 W
   generalize zaJ q BC dC BR dR cb rb (zaM p AC cC AR cR ca ra [])=H at*
   generalize zdY 4 2 l st=v at*
   cases v
   ·repeat' (first
     |apply zaA|apply zaa|apply zaz|apply zam|apply zan|apply zae|apply zay
     |(apply zaj hT;(iterate 4 exact rfl))|(apply zak;(iterate 3 exact rfl))|(apply zad;(iterate 2 exact rfl))
     |(apply zax hT;(iterate 4 exact rfl);(iterate 2 (first|omega|(dsimp only;omega))))
     |(apply zas [] [] hmix;decide+kernel)
     |(apply zaw (hs:=hS1);(iterate 7 exact rfl))
     |(apply zaw (hs:=hS2);(iterate 7 exact rfl))
     |(apply zaw (hs:=(hS3.mono (by simp)));(iterate 7 exact rfl))
     |(apply zaw (hs:=(hk.mono (by simp)));(iterate 7 exact rfl))
     |(apply zab;(iterate 5 exact rfl);first|(apply zat hT;exact rfl;exact rfl;(repeat(first|exact List.mem_cons_self|apply List.mem_cons_of_mem|apply List.mem_append_right));exact rfl;exact rfl)|(apply zar hT;exact rfl;exact rfl;(repeat(first|exact List.mem_cons_self|apply List.mem_cons_of_mem|apply List.mem_append_right));exact rfl))
     |(apply zav;(iterate 5 exact rfl);intro _)|(apply zac hT;(iterate 5 exact rfl);intro _)
     |(apply zaf;(iterate 2 exact rfl))|(apply zag;(iterate 2 exact rfl))
     |(apply zal;exact rfl;all_goals intro hb;all_goals(fail_if_success (change true=true at hb));all_goals(fail_if_success (change false=false at hb));all_goals(try dsimp only at hb);all_goals(try simp only[hb]);all_goals(first|replace hb:=of_decide_eq_true hb|replace hb:=of_decide_eq_false hb|replace hb:=zap hb|replace hb:=zaq hb|replace hb:=eq_of_beq hb|replace hb:=ne_of_beq_false hb|skip);all_goals(try(exfalso;omega)))
     |(apply zao;exact rfl;all_goals intro hb;all_goals(try dsimp only at hb);all_goals(try simp only[hb]);all_goals(first|replace hb:=of_decide_eq_true hb|replace hb:=of_decide_eq_false hb|replace hb:=zap hb|replace hb:=zaq hb|replace hb:=eq_of_beq hb|replace hb:=ne_of_beq_false hb|skip);all_goals(try(exfalso;omega))))
    all_goals first
     |(exfalso;omega)
     |(apply ret1;exact rfl;exact rfl)
     |skip
   ·repeat' (first
     |apply zaA|apply zaa|apply zaz|apply zam|apply zan|apply zae|apply zay
     |(apply zaj hT;(iterate 4 exact rfl))|(apply zak;(iterate 3 exact rfl))|(apply zad;(iterate 2 exact rfl))
     |(apply zax hT;(iterate 4 exact rfl);(iterate 2 (first|omega|(dsimp only;omega))))
     |(apply zas [] [] hmix;decide+kernel)
     |(apply zaw (hs:=hS1);(iterate 7 exact rfl))
     |(apply zaw (hs:=hS2);(iterate 7 exact rfl))
     |(apply zaw (hs:=(hS3.mono (by simp)));(iterate 7 exact rfl))
     |(apply zaw (hs:=(hk.mono (by simp)));(iterate 7 exact rfl))
     |(apply zab;(iterate 5 exact rfl);first|(apply zat hT;exact rfl;exact rfl;(repeat(first|exact List.mem_cons_self|apply List.mem_cons_of_mem|apply List.mem_append_right));exact rfl;exact rfl)|(apply zar hT;exact rfl;exact rfl;(repeat(first|exact List.mem_cons_self|apply List.mem_cons_of_mem|apply List.mem_append_right));exact rfl))
     |(apply zav;(iterate 5 exact rfl);intro _)|(apply zac hT;(iterate 5 exact rfl);intro _)
     |(apply zaf;(iterate 2 exact rfl))|(apply zag;(iterate 2 exact rfl))
     |(apply zal;exact rfl;all_goals intro hb;all_goals(fail_if_success (change true=true at hb));all_goals(fail_if_success (change false=false at hb));all_goals(try dsimp only at hb);all_goals(try simp only[hb]);all_goals(first|replace hb:=of_decide_eq_true hb|replace hb:=of_decide_eq_false hb|replace hb:=zap hb|replace hb:=zaq hb|replace hb:=eq_of_beq hb|replace hb:=ne_of_beq_false hb|skip);all_goals(try(exfalso;omega)))
     |(apply zao;exact rfl;all_goals intro hb;all_goals(try dsimp only at hb);all_goals(try simp only[hb]);all_goals(first|replace hb:=of_decide_eq_true hb|replace hb:=of_decide_eq_false hb|replace hb:=zap hb|replace hb:=zaq hb|replace hb:=eq_of_beq hb|replace hb:=ne_of_beq_false hb|skip);all_goals(try(exfalso;omega))))
    all_goals first
     |(exfalso;omega)
     |(apply ret1;exact rfl;exact rfl)
     |skip
end Go.Proofs.YteocfhdocpeokaaGreat
set_option linter.unusedSimpArgs false
set_option linter.unusedVariables false
namespace Go.Proofs.YteocfhdocpeokaaGreat
namespace auditSums
open Go Go.Sl Go.ChangeShapes Go.WideShapes Go.ChangeAt Go.RowKit
theorem own :ownKnob Tryz.prog.godebug=none:=by kernel_rfl
theorem zg1 :laidOutB Tryz.prog=true:=by kernel_rfl
set_option maxRecDepth 100000 in
theorem zhl (os:Os)(started:os.Started)(H:Type)(enc:TypeId×Value→H):
 ReturnsInHanded {} Tryz.checked os 3 .any (Rows.auditSumsSpec.pre6 enc Tryz.prog Tryz.f3 Rows.auditSumsRow.domain false) (Rows.auditSumsSpec.post enc Tryz.prog Tryz.f3 false true false false):=by
 refine returnsInHanded_of_change (C:= Tryz.checked) own started (by kernel_rfl) Tryz.func3
  (ChangeSpec.witness6 (enc:=enc) (C:= Tryz.checked) false ⟨#[],#[.slice none 0 0,.slice none 0 0],[]⟩ 8 (by kernel_rfl) (by kernel_rfl) (by kernel_rfl) (by kernel_rfl)) ?_
 intro W base args ds gs before hval0 hW hcnd _
 have hval:∀(j:Nat) t v,Tryz.f3.params[j]? =some t→args[j]? =some v→Value.okWide Tryz.prog W .any base t v:=hval0
 have hW':=hW
 obtain⟨p,q,hA0,hV,rfl,hfz,hnd⟩:=hW
 have hA:DataW.TrodAll enc Tryz.prog W 0 (fun _=>true) true Tryz.f3.params.toList args.toList ds p:=hA0
 obtain⟨rfl,rfl⟩:=trodVars_none hV
 simp only[List.append_nil]at hW'
 have hA1:=hA
 rw[Tryz.params3]at hA1 hval
 obtain⟨v0,vs0,d0,ds0,p0,q0,hargs,rfl,rfl,h0,r0⟩:=trodAll_cons hA1
 obtain⟨v1,vs1,d1,ds1,p1,q1,rfl,rfl,rfl,h1,r1⟩:=trodAll_cons r0
 obtain⟨rfl,rfl,rfl⟩:=trodAll_nil r1
 obtain rfl:args= #[v0,v1]:=by cases args;simp_all
 obtain⟨A0,c0,l0,rfl,hc0,ok0,hr0⟩:=zdV (W:=W) 8 Tryz.underlying22 (by kernel_rfl) (by kernel_rfl) zdW (hval 0 22 v0 rfl rfl) h0
 obtain⟨A1,c1,l1,rfl,hc1,ok1,hr1⟩:=zdV (W:=W) 8 Tryz.underlying22 (by kernel_rfl) (by kernel_rfl) zdW (hval 1 22 v1 rfl rfl) h1
 refine(zaI.row (zgx W A0 c0 l0 hr0 ok0 A1 c1 l1 hr1 ok1) (fun _ _ h=>h)).mono fun e W' ⟨he,hb⟩=> ?_
 subst he
 exact⟨_,rfl,zga hW' hA zg1 (by kernel_rfl) rfl rfl Tryz.underlying4 rfl rfl rfl hb⟩
theorem ziu : Tryz.prog.funcNamed Rows.auditSumsRow.func=some 3 :=by kernel_rfl
set_option maxRecDepth 100000 in
theorem zhm :joinedFacts Tryz.prog 3 Tryz.f3 Rows.auditSumsSpec Rows.auditSumsRow=true:=by
 unfold joinedFacts
 simp only[Bool.and_eq_true]
 repeat' apply And.intro
 all_goals decide+kernel
theorem inst : Tryz.f3.isInstance Tryz.prog Rows.auditSumsRow.origin Rows.auditSumsRow.targs:=of_decide_eq_true (by kernel_rfl)
theorem over :Rows.auditSumsRow.holds Tryz.pinned (OpenSpec.ofChange Rows.auditSumsSpec):=
 OpenClaim.holds_of_wide 3 Tryz.f3 rfl rfl rfl rfl rfl rfl rfl ⟨rfl,rfl,rfl,rfl,rfl⟩ rfl rfl rfl rfl rfl ziu Tryz.func3 zhm
  inst (by unfold Func.isWrapper;first|(rw[if_pos (by decide+kernel)];kernel_rfl)|(rw[if_neg (by decide+kernel)];exact⟨rfl,rfl⟩))
  (fun os started H enc _=>zhl os started H enc)
end auditSums
/-- the statement -/
theorem auditSums_holds :Rows.AuditSumsSaid:=auditSums.over
#print axioms auditSums_holds
end Go.Proofs.YteocfhdocpeokaaGreat
