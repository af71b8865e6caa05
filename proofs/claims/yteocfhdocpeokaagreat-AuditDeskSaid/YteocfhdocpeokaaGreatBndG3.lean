/- The statements' walks, and what they stand on, joined into few texts: part 3. Conditions stand in each statement. -/
import Derived.Test.YteocfhdocpeokaaGreatBndG2
set_option maxHeartbeats 16000000
set_option linter.all false
namespace Go.Proofs.YteocfhdocpeokaaGreat
open Go Go.Sl
attribute [local irreducible] AW ES EP Ld RetQ
set_option maxRecDepth 100000
theorem zmi (W:World)(s a b:Int):zaw Tryz.prog W 252 [.int .i64 s,.int .i64 a,.int .i64 b] [] (.bool (isB s&& !zbG s b a)):=by
 refine zaw.ofD (fun h' hs=> ?_)
 have hI:=zdx W s
 have hB:=zgK W s b a
 refine zaf Tryz.func252 rfl rfl Tryz.results252 Tryz.ntmps252 rfl rfl ?_
 repeat' (first|apply zah|apply zaa|apply zak|apply zag|apply zac hT;iterate 4 exact rfl|apply zaK;iterate 3 exact rfl|(apply zab (hs:=(hI.mono (by simp)));iterate 7 exact rfl)|(apply zab (hs:=(hB.mono (by simp)));iterate 7 exact rfl)|(apply zaH;exact rfl;all_goals(intro hb;(fail_if_success (change true=true at hb));(fail_if_success (change false=false at hb));(try dsimp only at hb);(try simp only[hb]);(first|skip);(try omega))))
 all_goals
  apply ret1;exact rfl
  refine⟨?_,dX⟩
  simp[*]
theorem zkB (W:World)(o x:zap)(how:Int):zaw Tryz.prog W 242 [.agg o.enc.toArray,.agg x.enc.toArray,.int .i64 how] [] (.bool (zcX how o x)):=by
 refine zaw.ofD (fun h' hs=> ?_)
 have hT':=zmi W o.side o.price x.price
 refine zaf Tryz.func242 rfl rfl Tryz.results242 Tryz.ntmps242 rfl rfl ?_
 repeat' (first|apply zah|apply zaa|apply zak|apply zag|apply zac hT;iterate 4 exact rfl|apply zaK;iterate 3 exact rfl|(apply zab (hs:=(hT'.mono (by simp)));iterate 7 exact rfl)|(apply zad;(iterate 5 exact rfl);first|(apply zaq hT;exact rfl;exact rfl;exact mX;exact rfl;exact rfl))|apply zaA;(iterate 5 exact rfl);intro _|(apply zaH;exact rfl;all_goals(intro hb;(fail_if_success (change true=true at hb));(fail_if_success (change false=false at hb));(try dsimp only at hb);(try simp only[hb]);(first|replace hb:=odt hb|replace hb:=odf hb);(try omega))))
 all_goals
  apply ret1;exact rfl
  refine⟨?_,dX⟩
  simp[zcX, *]
theorem zjD (W:World)(o x:zap)(how:Int)(g1 g2:Nat):zaw Tryz.prog W 241 [.agg x.enc.toArray,.pointer (some ⟨g1,0,none⟩),.pointer (some ⟨g2,0,none⟩)] [.blk g1 168 o.enc,.blk g2 3 [.int .i64 how]] (.bool (!zcX how o x)):=by
 refine zaw.ofD (fun h' hs=> ?_)
 have m1:=hs _ mem0
 have m2:=hs _ mem1
 have hT':=zkB W o x how
 refine zaf Tryz.func241 rfl rfl Tryz.results241 Tryz.ntmps241 rfl rfl ?_
 repeat' (first|apply zah|apply zaa|apply zak|apply zag|apply zac hT;iterate 4 exact rfl|(apply zab (hs:=(hT'.mono (by simp)));iterate 7 exact rfl)|(apply zad;(iterate 5 exact rfl);first|(apply zaq hT;exact rfl;exact rfl;(repeat(first|exact m2|apply mcm));exact rfl;exact rfl)|(apply zaF hT;exact rfl;exact rfl;(repeat(first|exact mcs|exact m1|apply mcm));exact rfl))|apply zaA;(iterate 5 exact rfl);intro _)
 apply ret1;exact rfl
 exact⟨rfl,dX⟩
theorem zjE (W:World)(h:List zao)(p:Nat)(A:Option Addr)(c:Nat)(l:List zap)(o:zap)(how:Int)(hB:za6 l)(m1:zao.blk p 152 [.slice A l.length c]∈h)(m2:zao.own A l.length c 168 6 (l.flatMap zap.enc)∈h):
 zax Tryz.prog W 226 [.pointer (some ⟨p,0,none⟩),.agg o.enc.toArray,.int .i64 how] h
  (fun v h'=>∃A' c',v=.slice A' (zaV how o l).length c'∧h'=.own A' (za3 (zbS o.side) l).length c' 168 6 ((za3 (zbS o.side) l).flatMap zap.enc)::h):=by
 refine zax.dropF ?_
 have hO:=zfV W o.side
 have hS:=fun h m1 m2=>zfl W h p A c l (zbS o.side) m1 m2 hB.le hB.seq hB.side
 have hsl:=zcW (zbS o.side) l
 have hbl:=hB.len
 unfold zaV
 generalize za3 (zbS o.side) l=sl at hS hsl ⊢
 obtain⟨hi1,hi2⟩:=zqg (p:=zcX how o) (l:=sl)
 have hidx:∀h A2 c2 g1 g2,OwnF A2 sl.length c2 6 (sl.flatMap zap.enc)→zao.own A2 sl.length c2 168 6 (sl.flatMap zap.enc)∈h→zao.blk g1 168 o.enc∈h→zao.blk g2 3 [.int .i64 how]∈h→zaw Tryz.prog W 169 [.slice A2 sl.length c2,.func (.func 241) #[] #[.pointer (some ⟨g1,0,none⟩),.pointer (some ⟨g2,0,none⟩)]] h (.int .i64 (zaT (fun x=> !zcX how o x) sl)):=fun h A2 c2 g1 g2 hf n1 n2 n3=>
  zdw W h A2 _ c2 sl rfl (hf.reads n1) _ [_,_] (fun x=> !zcX how o x) (fun x _=>(zjD W o x how g1 g2).mono (zbz n2 n3)) (by omega)
 refine zaf Tryz.func226 rfl rfl Tryz.results226 Tryz.ntmps226 rfl rfl ?_
 rcases Int.lt_or_le (zaT (fun x=> !zcX how o x) sl) 0 with hneg|hpos
 ·rw[hi1 hneg]
  generalize zaT (fun x=> !zcX how o x) sl=ix at hneg hidx
  repeat' (first|apply zah|apply zaa|apply zak|apply zag|apply zac hT;iterate 4 exact rfl|(apply zaA;(iterate 5 exact rfl);first|(fail_if_success (have q:=g4));intro g4|intro g5)|(apply zab (hs:=(hO.mono (by simp)));iterate 7 exact rfl)|(apply zau (hs:=(hS _ (.tail _ (.tail _ m1)) (.tail _ (.tail _ m2))));(iterate 7 exact rfl);rintro _ _ ⟨AS,cS,rfl,rfl,hfS⟩)|(apply zab (hs:=(hidx _ _ _ _ _ hfS mX mX mX));iterate 7 exact rfl)|(apply zad;(iterate 5 exact rfl);first|(apply zaq hT;exact rfl;exact rfl;exact mX;exact rfl;exact rfl))|(apply zal;exact rfl;all_goals(intro hb;(try dsimp only at hb);(try simp only[hb]);(first|replace hb:=odt hb|replace hb:=odf hb);(try omega))))
  all_goals first
   |(exfalso;omega)
   |(apply ret1;exact rfl
     exact⟨.own AS sl.length cS 168 6 (sl.flatMap zap.enc)::h,dX,fun w hw=>⟨AS,cS,rfl,rfl⟩⟩)
   |skip
 ·obtain⟨i,hi⟩:=Int.eq_ofNat_of_zero_le hpos
  obtain⟨e1,e2⟩:=hi2 i hi
  have hln:(sl.take i).length=i:=by simp;omega
  rw[e1,hln]
  rw[hi]at hidx
  repeat' (first|apply zah|apply zaa|apply zak|apply zam|apply zag|apply zac hT;iterate 4 exact rfl|(apply zaA;(iterate 5 exact rfl);first|(fail_if_success (have q:=g4));intro g4|intro g5)|(apply zab (hs:=(hO.mono (by simp)));iterate 7 exact rfl)|(apply zau (hs:=(hS _ (.tail _ (.tail _ m1)) (.tail _ (.tail _ m2))));(iterate 7 exact rfl);rintro _ _ ⟨AS,cS,rfl,rfl,hfS⟩)|(apply zab (hs:=(hidx _ _ _ _ _ hfS mX mX mX));iterate 7 exact rfl)|(apply zbU hT;(iterate 8 exact rfl);omega;(have hnc:=hfS.nc;omega))|(apply zad;(iterate 5 exact rfl);first|(apply zaq hT;exact rfl;exact rfl;exact mX;exact rfl;exact rfl))|(apply zan;iterate 2 exact rfl))
  all_goals first
   |(exfalso;omega)
   |(apply ret1;exact rfl
     exact⟨.own AS sl.length cS 168 6 (sl.flatMap zap.enc)::h,dX,fun w hw=>⟨AS,cS,rfl,rfl⟩⟩)
   |skip
theorem zeW (W:World)(h:List zao)(p:Nat)(A:Option Addr)(c:Nat)(l:List zap)(o:zap)(how:Int)(hB:za6 l)(m1:zao.blk p 152 [.slice A l.length c]∈h)(m2:zao.own A l.length c 168 6 (l.flatMap zap.enc)∈h):
 zax Tryz.prog W 226 [.pointer (some ⟨p,0,none⟩),.agg o.enc.toArray,.int .i64 how] h
  (fun v h'=>∃A' c',v=.slice A' (zaV how o l).length c'∧h'=.own A' (zaV how o l).length c' 168 6 ((zaV how o l).flatMap zap.enc)::h∧OwnF A' (zaV how o l).length c' 6 ((zaV how o l).flatMap zap.enc)):=by
 refine(zjE W h p A c l o how hB m1 m2).conv ?_
 rintro v h' ⟨A',c',rfl,rfl⟩ w hw
 have hpre:=List.takeWhile_prefix (zcX how o) (l:=za3 (zbS o.side) l)
 have hle:(zaV how o l).length≤(za3 (zbS o.side) l).length:=hpre.length_le
 have hw2:=zmh hw hle
 have e:(za3 (zbS o.side) l).take (zaV how o l).length=zaV how o l:=(List.prefix_iff_eq_take.1 hpre).symm
 rw[zci zap.enc_len,e]at hw2
 exact⟨_,hw2,A',c',rfl,rfl,hw2.ownF mem0⟩
theorem znI {p:zap→Bool}{l:List zap}{k:Nat}{x:zap}(hx:l[k]? =some x):sumL ((l.take (k+1)).filter p)=sumL ((l.take k).filter p)+if p x then x.left else 0:=by
 rw[List.take_add_one,hx,List.filter_append,zeS]
 cases h:p x<;>simp[h,sumL]
theorem zqP {p:zap→Bool}{l:List zap}(h:∀o∈l,1≤o.left∧o.left≤1000000)(hl:l.length≤64)(k:Nat):0≤sumL ((l.take k).filter p)∧sumL ((l.take k).filter p)≤64000000:=by
 have h1:=zns (l:=(l.take k).filter p) (fun o ho=>h o (List.mem_of_mem_take (List.mem_filter.1 ho).1))
 have h2:=List.length_filter_le p (l.take k)
 have h3:(l.take k).length≤64:=by simp;omega
 omega
theorem zcG {how:Int}{o:zap}{l:List zap}{x:zap}(h:x∈zaV how o l):x∈l∧x.side=zbS o.side:=zbX ((List.takeWhile_prefix _).subset h)
theorem zgT (how:Int)(o:zap)(l:List zap):(zaV how o l).length≤l.length:=Nat.le_trans (List.takeWhile_prefix _).length_le (zcW _ _)
theorem zkC (W:World)(p:Nat)(A:Option Addr)(c:Nat)(l:List zap)(o:zap)(how:Int)(hB:za6 l):
 zaw Tryz.prog W 240 [.pointer (some ⟨p,0,none⟩),.agg o.enc.toArray,.int .i64 how] (za2 p A c l []) (.int .i64 (zga how o l)):=by
 refine zaw.ofD (fun h' hs=> ?_)
 have m1:=hs _ mem0
 have m2:=hs _ mem1
 have hI:=zdx W o.side
 refine zaf Tryz.func240 rfl rfl Tryz.results240 Tryz.ntmps240 rfl rfl ?_
 cases hb:isB o.side
 ·rw[hb]at hI
  repeat' (first|apply zah|apply zaa|apply zak|apply zag|apply zac hT;iterate 4 exact rfl|(apply zab (hs:=(hI.mono (by simp)));iterate 7 exact rfl)|(apply zad;(iterate 5 exact rfl);first|(apply zaq hT;exact rfl;exact rfl;exact mX;exact rfl;exact rfl))|apply zaA;(iterate 5 exact rfl);intro _|apply zas;iterate 2 exact rfl)
  apply ret1;exact rfl
  exact⟨by simp[zga,hb],dX⟩
 rw[hb]at hI
 have hv:zga how o l=max (min (sumL (zcS o (zaV how o l))) o.left) 0:=by simp[zga,hb]
 rw[hv]
 have hM:=fun h m1 m2=>zeW W h p A c l o how hB m1 m2
 have hml:=zgT how o l
 have hbl:=hB.len
 have hlf:∀x∈zaV how o l,1≤x.left∧x.left≤1000000:=fun x hx=>hB.left x (zcG hx).1
 generalize zaV how o l=ms at hM hml hlf ⊢
 unfold zcS
 repeat' (first|apply zah|apply zaa|apply zam|apply zaj|apply zag|apply zac hT;iterate 4 exact rfl|apply zaA;(iterate 5 exact rfl);intro g4|(apply zab (hs:=(hI.mono (by simp)));iterate 7 exact rfl)|apply zau (hs:=(hM _ (.tail _ m1) (.tail _ m2)));(iterate 7 exact rfl);rintro _ _ ⟨AM,cM,rfl,rfl,hfM⟩|(apply zad;(iterate 5 exact rfl);first|(apply zaq hT;exact rfl;exact rfl;exact mX;exact rfl;exact rfl)|(apply zaF hT;exact rfl;exact rfl;exact mX;exact rfl))|apply zan;iterate 2 exact rfl)
 all_goals try omega
 refine za1 (α:=Nat) (E:=fun k=>[(4,.pointer (some ⟨g4,0,none⟩)),(7,.int .i64 (sumL ((ms.take k).filter fun x=> !(x.owner==o.owner)))),(17,.slice AM ms.length cM),(18,.int .i64 ms.length),(19,.int .i64 k)])
  (H:=fun k=>.own AM ms.length cM 168 6 (ms.flatMap zap.enc)::.blk g4 168 o.enc::h') (μ:=fun k=>ms.length - k)
  (S:=fun k=>k≤ms.length) 0 (Nat.zero_le _) ⟨rfl,rfl,rfl,rfl,rfl,trivial⟩ dX ?_
 intro k hk
 have hbd:=zqP (p:=fun x=> !(x.owner==o.owner)) hlf (by omega) k
 by_cases hlt:k<ms.length
 ·obtain⟨x,hx⟩:∃x,ms[k]? =some x:=⟨ms[k]'(by omega),gge (by omega)⟩
  have hx2:ms[(k:Int).toNat]? =some x:=by simpa using hx
  have hA:=hfM.some_ (by omega)
  have hd1:decide ((k:Int)<(ms.length:Int))=true:=by simp;omega
  have hst:=znI (p:=fun x=> !(x.owner==o.owner)) hx
  have hxl:=hlf x (mog hx)
  generalize sumL ((ms.take k).filter fun x=> !(x.owner==o.owner))=m at hbd hst ⊢
  by_cases how1:x.owner=o.owner
  ·rw[if_neg (by simp[how1]),Int.add_zero]at hst
   repeat' (first|apply zah|apply zaa|apply zam|apply zaj|apply zag|apply zac hT;iterate 4 exact rfl|(apply zaM hT;(iterate 4 exact rfl);(iterate 2 (first|omega)))|apply zaJ hT;(iterate 8 exact rfl);(iterate 2 omega);exact hA|apply zad;(iterate 5 exact rfl);exact zaO hT rfl rfl (hfM.reads mem0) zap.enc_len rfl hx2 rfl|(apply zay hT;(iterate 5 exact rfl);first|(fail_if_success (have q:=g9));intro g9)|(apply zar hT;(iterate 6 exact rfl);exact sX;(iterate 3 exact rfl);exact nle rfl)|(apply zad;(iterate 5 exact rfl);first|(apply zaq hT;exact rfl;exact rfl;exact mX;exact rfl;exact rfl))|(apply zal;exact rfl;all_goals(intro hb;(try dsimp only at hb);(try simp only[hb]);(first|replace hb:=odt hb|replace hb:=odf hb|replace hb:=zbc hb|replace hb:=zbd hb);(try omega))))
   all_goals first
    |(exfalso;omega)
    |exact zaD (k+1) (by(try dsimp only);omega) (by(try dsimp only);omega) ⟨rfl,by(try dsimp only);rw[hst];rfl,rfl,rfl,rfl,trivial⟩ (za5 zaX)
    |(apply zdt;exact zaD (k+1) (by(try dsimp only);omega) (by(try dsimp only);omega) ⟨rfl,by(try dsimp only);rw[hst];rfl,rfl,rfl,rfl,trivial⟩ (za5 zaX))
    |skip
  ·rw[if_pos (by simp[how1])]at hst
   repeat' (first|apply zah|apply zaa|apply zam|apply zaj|apply zag|apply zac hT;iterate 4 exact rfl|(apply zaM hT;(iterate 4 exact rfl);(iterate 2 (first|omega)))|apply zaJ hT;(iterate 8 exact rfl);(iterate 2 omega);exact hA|apply zad;(iterate 5 exact rfl);exact zaO hT rfl rfl (hfM.reads mem0) zap.enc_len rfl hx2 rfl|(apply zay hT;(iterate 5 exact rfl);first|(fail_if_success (have q:=g9));intro g9)|(apply zar hT;(iterate 6 exact rfl);exact sX;(iterate 3 exact rfl);exact nle rfl)|(apply zad;(iterate 5 exact rfl);first|(apply zaq hT;exact rfl;exact rfl;exact mX;exact rfl;exact rfl))|(apply zal;exact rfl;all_goals(intro hb;(try dsimp only at hb);(try simp only[hb]);(first|replace hb:=odt hb|replace hb:=odf hb|replace hb:=zbc hb|replace hb:=zbd hb);(try omega))))
   all_goals first
    |(exfalso;omega)
    |exact zaD (k+1) (by(try dsimp only);omega) (by(try dsimp only);omega) ⟨rfl,by(try dsimp only);rw[hst];rfl,rfl,rfl,rfl,trivial⟩ (za5 zaX)
    |(apply zdt;exact zaD (k+1) (by(try dsimp only);omega) (by(try dsimp only);omega) ⟨rfl,by(try dsimp only);rw[hst];rfl,rfl,rfl,rfl,trivial⟩ (za5 zaX))
    |skip
 ·obtain rfl:k=ms.length:=by omega
  have hd1:decide ((ms.length:Int)<(ms.length:Int))=false:=by simp
  rw[List.take_length]
  repeat' (first|apply zah|apply zaa|apply zak|apply zaN|apply zag|apply zac hT;iterate 4 exact rfl|apply zla;iterate 5 exact rfl|apply zrl;iterate 5 exact rfl|(apply zad;(iterate 5 exact rfl);first|(apply zaq hT;exact rfl;exact rfl;exact mX;exact rfl;exact rfl))|(apply zal;exact rfl;all_goals(intro hb;(try dsimp only at hb);(try simp only[hb]);(first|replace hb:=odt hb|replace hb:=odf hb);(try omega))))
  all_goals first
   |(exfalso;omega)
   |(apply ret1;exact rfl;exact⟨rfl,dX⟩)
   |skip
theorem zjF (W:World)(o x:zap)(g1:Nat):zaw Tryz.prog W 251 [.agg x.enc.toArray,.pointer (some ⟨g1,0,none⟩)] [.blk g1 168 o.enc] (.bool (zbj o x)):=by
 refine zaw.ofD (fun h' hs=> ?_)
 have m1:=hs _ mem0
 refine zaf Tryz.func251 rfl rfl Tryz.results251 Tryz.ntmps251 rfl rfl ?_
 repeat' (first|apply zah|apply zaa|apply zak|apply zag|apply zac hT;iterate 4 exact rfl|apply zaK;iterate 3 exact rfl|(apply zad;(iterate 5 exact rfl);first|(apply zaq hT;exact rfl;exact rfl;(repeat(first|exact mcs|exact m1|apply mcm));exact rfl;exact rfl))|apply zaA;(iterate 5 exact rfl);intro _|(apply zaH;exact rfl;all_goals(intro hb;(fail_if_success (change true=true at hb));(fail_if_success (change false=false at hb));(try dsimp only at hb);(try simp only[hb]);(first|replace hb:=odt hb|replace hb:=odf hb);(try omega))))
 all_goals
  apply ret1;exact rfl
  refine⟨?_,dX⟩
  simp[zbj, *]
theorem zgU (W:World)(how:Int):zaw Tryz.prog W 228 [.int .i64 how] [] (.bool (zb9 how)):=by
 refine zaw.ofD (fun h' hs=> ?_)
 refine zaf Tryz.func228 rfl rfl Tryz.results228 Tryz.ntmps228 rfl rfl ?_
 repeat' (first|apply zah|apply zaa|apply zak|apply zag|apply zac hT;iterate 4 exact rfl|apply zaK;iterate 3 exact rfl|(apply zaH;exact rfl;all_goals(intro hb;(fail_if_success (change true=true at hb));(fail_if_success (change false=false at hb));(try dsimp only at hb);(try simp only[hb]);(first|replace hb:=odt hb|replace hb:=odf hb);(try omega))))
 all_goals
  apply ret1;exact rfl
  refine⟨?_,dX⟩
  simp[zb9, *]
theorem zmj {o:zap}{l:List zap}(hB:za6 l):zaT (zbj o) l<0↔zaT (zbj o) (za3 1 l)<0∧zaT (zbj o) (za3 2 l)<0:=by
 rw[zbV,zbV,zbV]
 refine⟨fun h=>⟨fun x hx=>h x (zbX hx).1,fun x hx=>h x (zbX hx).1⟩,fun⟨h1,h2⟩ x hx=> ?_⟩
 have hm:∀s,x.side=s→x∈za3 s l:=fun s e=>(zbW s l).mem_iff.2 (List.mem_filter.2 ⟨hx,by simp[zbB,e]⟩)
 rcases zeT (hB.side x hx)with e|e
 ·exact h1 x (hm 1 e)
 ·exact h2 x (hm 2 e)
theorem zpp (how:Int)(o:zap):zbj (asX how o)=zbj o:=by
 funext x;unfold zbj asX;split<;>rfl
theorem znJ (o:zap):zeR o []=if okO o then 0 else 1:=by
 unfold zeR
 cases h:okO o<;>simp[zaT]
theorem zkD (W:World)(p:Nat)(A:Option Addr)(c:Nat)(l:List zap)(o:zap)(how:Int)(hB:za6 l):
 zaw Tryz.prog W 238 [.pointer (some ⟨p,0,none⟩),.agg o.enc.toArray,.int .i64 how] (za2 p A c l []) (.bool (newB how o l)):=by
 refine zaw.ofD (fun h' hs=> ?_)
 have m1:=hs _ mem0
 have m2:=hs _ mem1
 refine zaf Tryz.func238 rfl rfl Tryz.results238 Tryz.ntmps238 rfl rfl ?_
 by_cases h1:how<0∨how>4
 ·have hv:newB how o l=false:=by
   unfold newB
   rcases h1 with h|h
   ·rw[show decide (0≤how)=false by simp;omega];rfl
   ·rw[show decide (how≤4)=false by simp;omega];simp
  rw[hv]
  repeat' (first|apply zah|apply zaa|apply zak|apply zag|apply zac hT;iterate 4 exact rfl|apply zaK;iterate 3 exact rfl|apply zaA;(iterate 5 exact rfl);intro _|apply zas;iterate 2 exact rfl|(apply zaH;exact rfl;all_goals(intro hb;(fail_if_success (change true=true at hb));(fail_if_success (change false=false at hb));(try dsimp only at hb);(try simp only[hb]);(first|replace hb:=odt hb|replace hb:=odf hb);(try omega)))|(apply zal;exact rfl;all_goals(intro hb;(try dsimp only at hb);(try simp only[hb]);(first|replace hb:=odt hb|replace hb:=odf hb);(try omega))))
  all_goals first
   |(exfalso;omega)
   |(apply ret1;exact rfl;exact⟨rfl,dX⟩)
 by_cases h2:how=4∧o.price≠0
 ·have hv:newB how o l=false:=by
   unfold newB
   have e:(!(how==4&& !(o.price==0)))=false:=by simp[h2.1,h2.2]
   rw[e];simp
  rw[hv]
  repeat' (first|apply zah|apply zaa|apply zak|apply zam|apply zag|apply zac hT;iterate 4 exact rfl|(apply zad;(iterate 5 exact rfl);first|(apply zaq hT;exact rfl;exact rfl;exact mX;exact rfl;exact rfl))|apply zaA;(iterate 5 exact rfl);intro _|(apply zaH;exact rfl;all_goals(intro hb;(fail_if_success (change true=true at hb));(fail_if_success (change false=false at hb));(try dsimp only at hb);(try simp only[hb]);(first|replace hb:=odt hb|replace hb:=odf hb);(try omega)))|(apply zal;exact rfl;all_goals(intro hb;(try dsimp only at hb);(try simp only[hb]);(first|replace hb:=odt hb|replace hb:=odf hb|replace hb:=zbc hb|replace hb:=zbd hb);(try omega))))
  all_goals first
   |(exfalso;omega)
   |(apply ret1;exact rfl;exact⟨rfl,dX⟩)
 have hv:newB how o l=(okO (asX how o)&&decide (zaT (zbj (asX how o)) l<0)):=by
  unfold newB
  rw[show decide (0≤how)=true by simp;omega,show decide (how≤4)=true by simp;omega,show(!(how==4&& !(o.price==0)))=true by simp;omega,zpp]
  simp
 rw[hv]
 have hS:=fun s h m1 m2=>zfl W h p A c l s m1 m2 hB.le hB.seq hB.side
 have hs1:=zcW 1 l
 have hs2:=zcW 2 l
 have hbl:=hB.len
 have hcl:=zmj (o:=asX how o) hB
 have hct:∀(o':zap) (s:Int) h g1 A2 c2,(za3 s l).length≤1000000→OwnF A2 (za3 s l).length c2 6 ((za3 s l).flatMap zap.enc)→zao.own A2 (za3 s l).length c2 168 6 ((za3 s l).flatMap zap.enc)∈h→zao.blk g1 168 o'.enc∈h→zaw Tryz.prog W 244 [.slice A2 (za3 s l).length c2,.func (.func 251) #[] #[.pointer (some ⟨g1,0,none⟩)]] h (.bool (decide (zaT (zbj o') (za3 s l)≥0))):=fun o' s h g1 A2 c2 hle hf n1 n2=>
  zdF W h A2 _ c2 (za3 s l) rfl (hf.reads n1) _ [_] (zbj o') (fun x _=>(zjF W o' x g1).mono (zfR n2)) (by omega)
 have hadd:=fun p A c h=>zgm W h p A c [] (asX how o) (by simp)
 rw[znJ]at hadd
 by_cases h4:how=4
 ·have has:asX how o={o with price:=1}:=by unfold asX;rw[if_pos h4]
  rw[has]at hcl hadd ⊢
  repeat' (first|apply zah|apply zaa|apply zam|apply zaj|apply zag|apply zac hT;iterate 4 exact rfl|apply zaA;(iterate 5 exact rfl);intro g4|(apply zar hT;(iterate 6 exact rfl);exact sX;(iterate 3 exact rfl);exact nle rfl)|apply zaB hT;(iterate 12 exact rfl);intro g25|(apply zad;(iterate 5 exact rfl);first|(apply zaq hT;exact rfl;exact rfl;exact mX;exact rfl;exact rfl))|(apply zaH;exact rfl;all_goals(intro hb;(fail_if_success (change true=true at hb));(fail_if_success (change false=false at hb));(try dsimp only at hb);(try simp only[hb]);(first|replace hb:=odt hb|replace hb:=odf hb);(try omega)))|(apply zal;exact rfl;all_goals(intro hb;(try dsimp only at hb);(try simp only[hb]);(first|replace hb:=odt hb|replace hb:=odf hb|replace hb:=zbc hb|replace hb:=zbd hb);(try omega))))
  all_goals try omega
  refine za1 (α:=Nat) (E:=fun k=>[(0,.pointer (some ⟨p,0,none⟩)),(4,.pointer (some ⟨g4,0,none⟩)),(25,.slice (some ⟨g25,0,none⟩) 2 2),(26,.int .i64 2),(27,.int .i64 k)])
   (H:=fun k=>.own (some ⟨g25,0,none⟩) 2 2 3 1 [.int .i64 1,.int .i64 2]::.blk g4 168 (zap.enc {o with price:=1})::h') (μ:=fun k=>2 - k)
   (S:=fun k=>k≤2∧(1≤k→zaT (zbj {o with price:=1}) (za3 1 l)<0)∧(2≤k→zaT (zbj {o with price:=1}) (za3 2 l)<0)) 0 ⟨by omega,fun h=>by omega,fun h=>by omega⟩ ⟨rfl,rfl,rfl,rfl,rfl,trivial⟩ dX ?_
  rintro k ⟨hk,hk1,hk2⟩
  have hrd:zaz W (.own (some ⟨g25,0,none⟩) 2 2 3 1 [.int .i64 1,.int .i64 2]::.blk g4 168 (zap.enc {o with price:=1})::h') (some ⟨g25,0,none⟩) 2 1 [.int .i64 1,.int .i64 2]:=zaz.own mem0 rfl (List.all_eq_true.1 (rfl:([.int .i64 1,.int .i64 2]:List Value).all Value.oneCell'=true))
  rcases(show k=0∨k=1∨k=2 by omega)with rfl|rfl|rfl
  ·have hd1:decide (((0:Nat):Int)<2)=true:=by decide
   have hx2:([.int .i64 1,.int .i64 2]:List Value)[((0:Nat):Int).toNat*1]? =some (.int .i64 1):=rfl
   rcases Int.lt_or_le (zaT (zbj {o with price:=1}) (za3 1 l)) 0 with hn|hn
   ·have hct1:=hct {o with price:=1} 1
    rw[show decide (zaT (zbj {o with price:=1}) (za3 1 l)≥0)=false by simp;omega]at hct1
    repeat' (first|apply zah|apply zaa|apply zam|apply zaj|apply zag|apply zac hT;iterate 4 exact rfl|(apply zaM hT;(iterate 4 exact rfl);(iterate 2 (first|omega)))|apply zaJ hT;(iterate 8 exact rfl);(iterate 2 omega);exact rfl|apply zad;(iterate 5 exact rfl);exact zbe hT rfl rfl hrd rfl hx2|apply zau (hs:=(hS 1 _ (.tail _ (.tail _ m1)) (.tail _ (.tail _ m2))));(iterate 7 exact rfl);rintro _ _ ⟨AS,cS,rfl,rfl,hfS⟩|(apply zab (hs:=(hct1 _ _ _ _ (by omega) hfS mX mX));iterate 7 exact rfl)|apply zas;iterate 2 exact rfl|apply zan;iterate 2 exact rfl)
    all_goals first
     |(exfalso;omega)
     |exact zaD 1 (by decide) ⟨by omega,fun _=>hn,fun h=>absurd h (by decide)⟩ ⟨rfl,rfl,rfl,rfl,rfl,trivial⟩ dX
     |(apply zdt;exact zaD 1 (by decide) ⟨by omega,fun _=>hn,fun h=>absurd h (by decide)⟩ ⟨rfl,rfl,rfl,rfl,rfl,trivial⟩ dX)
     |skip
   ·have hct1:=hct {o with price:=1} 1
    rw[show decide (zaT (zbj {o with price:=1}) (za3 1 l)≥0)=true by simp;omega]at hct1
    repeat' (first|apply zah|apply zaa|apply zak|apply zam|apply zaj|apply zag|apply zac hT;iterate 4 exact rfl|apply zaJ hT;(iterate 8 exact rfl);(iterate 2 omega);exact rfl|apply zad;(iterate 5 exact rfl);exact zbe hT rfl rfl hrd rfl hx2|apply zau (hs:=(hS 1 _ (.tail _ (.tail _ m1)) (.tail _ (.tail _ m2))));(iterate 7 exact rfl);rintro _ _ ⟨AS,cS,rfl,rfl,hfS⟩|(apply zab (hs:=(hct1 _ _ _ _ (by omega) hfS mX mX));iterate 7 exact rfl)|apply zas;iterate 2 exact rfl)
    all_goals first
     |(exfalso;omega)
     |(apply ret1;exact rfl
       refine⟨?_,dX⟩
       rw[show decide (zaT (zbj {o with price:=1}) l<0)=false by rw[decide_eq_false_iff_not,hcl];omega,Bool.and_false])
     |skip
  ·have hd1:decide (((1:Nat):Int)<2)=true:=by decide
   have hx2:([.int .i64 1,.int .i64 2]:List Value)[((1:Nat):Int).toNat*1]? =some (.int .i64 2):=rfl
   rcases Int.lt_or_le (zaT (zbj {o with price:=1}) (za3 2 l)) 0 with hn|hn
   ·have hct1:=hct {o with price:=1} 2
    rw[show decide (zaT (zbj {o with price:=1}) (za3 2 l)≥0)=false by simp;omega]at hct1
    repeat' (first|apply zah|apply zaa|apply zam|apply zaj|apply zag|apply zac hT;iterate 4 exact rfl|(apply zaM hT;(iterate 4 exact rfl);(iterate 2 (first|omega)))|apply zaJ hT;(iterate 8 exact rfl);(iterate 2 omega);exact rfl|apply zad;(iterate 5 exact rfl);exact zbe hT rfl rfl hrd rfl hx2|apply zau (hs:=(hS 2 _ (.tail _ (.tail _ m1)) (.tail _ (.tail _ m2))));(iterate 7 exact rfl);rintro _ _ ⟨AS,cS,rfl,rfl,hfS⟩|(apply zab (hs:=(hct1 _ _ _ _ (by omega) hfS mX mX));iterate 7 exact rfl)|apply zas;iterate 2 exact rfl|apply zan;iterate 2 exact rfl)
    all_goals first
     |(exfalso;omega)
     |exact zaD 2 (by decide) ⟨by omega,fun _=>hk1 (by decide),fun _=>hn⟩ ⟨rfl,rfl,rfl,rfl,rfl,trivial⟩ dX
     |(apply zdt;exact zaD 2 (by decide) ⟨by omega,fun _=>hk1 (by decide),fun _=>hn⟩ ⟨rfl,rfl,rfl,rfl,rfl,trivial⟩ dX)
     |skip
   ·have hct1:=hct {o with price:=1} 2
    rw[show decide (zaT (zbj {o with price:=1}) (za3 2 l)≥0)=true by simp;omega]at hct1
    repeat' (first|apply zah|apply zaa|apply zak|apply zam|apply zaj|apply zag|apply zac hT;iterate 4 exact rfl|apply zaJ hT;(iterate 8 exact rfl);(iterate 2 omega);exact rfl|apply zad;(iterate 5 exact rfl);exact zbe hT rfl rfl hrd rfl hx2|apply zau (hs:=(hS 2 _ (.tail _ (.tail _ m1)) (.tail _ (.tail _ m2))));(iterate 7 exact rfl);rintro _ _ ⟨AS,cS,rfl,rfl,hfS⟩|(apply zab (hs:=(hct1 _ _ _ _ (by omega) hfS mX mX));iterate 7 exact rfl)|apply zas;iterate 2 exact rfl)
    all_goals first
     |(exfalso;omega)
     |(apply ret1;exact rfl
       refine⟨?_,dX⟩
       rw[show decide (zaT (zbj {o with price:=1}) l<0)=false by rw[decide_eq_false_iff_not,hcl];omega,Bool.and_false])
     |skip
  ·have hd1:decide (((2:Nat):Int)<2)=false:=by decide
   have hall:=hcl.2 ⟨hk1 (by decide),hk2 (by decide)⟩
   rw[decide_eq_true hall,Bool.and_true]
   cases hok:okO {o with price:=1}
   ·rw[hok]at hadd
    repeat' (first|apply zah|apply zaa|apply zak|apply zaN|apply zag|apply zac hT;iterate 4 exact rfl|(apply zes [.blk g4 168 (zap.enc {o with price:=1})] [] [52,229] (.step 1 <| .step 0 <| .step 2 <| .step 3 <| .step 4 <| .nil) hmix;decide+kernel)|apply zcJ|apply zb7;exact rfl|(apply zcp (hs:=(zgl W _));(iterate 7 exact rfl);(rintro _ _ ⟨pn,An,cn,rfl,rfl⟩;refine⟨by(apply zfR;exact mX),?_⟩))|(apply zcp (hs:=(hadd _ _ _ _));(iterate 7 exact rfl);(rintro _ _ ⟨rfl,An2,cn2,rfl⟩;refine⟨by(apply zfR;exact mX),?_⟩))|((first|(apply zeq;(iterate 5 exact rfl);first|(apply zfR;exact mX)));first|(apply zaF hT;exact rfl;exact rfl;exact mX;exact rfl))|apply zan;iterate 2 exact rfl)
    all_goals first
     |(exfalso;omega)
     |(apply ret1;exact rfl;exact⟨rfl,dX⟩)
     |skip
   ·rw[hok]at hadd
    repeat' (first|apply zah|apply zaa|apply zak|apply zaN|apply zag|apply zac hT;iterate 4 exact rfl|(apply zes [.blk g4 168 (zap.enc {o with price:=1})] [] [52,229] (.step 1 <| .step 0 <| .step 2 <| .step 3 <| .step 4 <| .nil) hmix;decide+kernel)|apply zcJ|apply zb7;exact rfl|(apply zcp (hs:=(zgl W _));(iterate 7 exact rfl);(rintro _ _ ⟨pn,An,cn,rfl,rfl⟩;refine⟨by(apply zfR;exact mX),?_⟩))|(apply zcp (hs:=(hadd _ _ _ _));(iterate 7 exact rfl);(rintro _ _ ⟨rfl,An2,cn2,rfl⟩;refine⟨by(apply zfR;exact mX),?_⟩))|((first|(apply zeq;(iterate 5 exact rfl);first|(apply zfR;exact mX)));first|(apply zaF hT;exact rfl;exact rfl;exact mX;exact rfl))|apply zan;iterate 2 exact rfl)
    all_goals first
     |(exfalso;omega)
     |(apply ret1;exact rfl;exact⟨rfl,dX⟩)
     |skip
 ·have has:asX how o=o:=by unfold asX;rw[if_neg h4]
  rw[has]at hcl hadd ⊢
  repeat' (first|apply zah|apply zaa|apply zam|apply zaj|apply zag|apply zac hT;iterate 4 exact rfl|apply zaA;(iterate 5 exact rfl);intro g4|apply zaB hT;(iterate 12 exact rfl);intro g25|(apply zaH;exact rfl;all_goals(intro hb;(fail_if_success (change true=true at hb));(fail_if_success (change false=false at hb));(try dsimp only at hb);(try simp only[hb]);(first|replace hb:=odt hb|replace hb:=odf hb);(try omega)))|(apply zal;exact rfl;all_goals(intro hb;(try dsimp only at hb);(try simp only[hb]);(first|replace hb:=odt hb|replace hb:=odf hb);(try omega))))
  all_goals try omega
  refine za1 (α:=Nat) (E:=fun k=>[(0,.pointer (some ⟨p,0,none⟩)),(4,.pointer (some ⟨g4,0,none⟩)),(25,.slice (some ⟨g25,0,none⟩) 2 2),(26,.int .i64 2),(27,.int .i64 k)])
   (H:=fun k=>.own (some ⟨g25,0,none⟩) 2 2 3 1 [.int .i64 1,.int .i64 2]::.blk g4 168 (zap.enc o)::h') (μ:=fun k=>2 - k)
   (S:=fun k=>k≤2∧(1≤k→zaT (zbj o) (za3 1 l)<0)∧(2≤k→zaT (zbj o) (za3 2 l)<0)) 0 ⟨by omega,fun h=>by omega,fun h=>by omega⟩ ⟨rfl,rfl,rfl,rfl,rfl,trivial⟩ dX ?_
  rintro k ⟨hk,hk1,hk2⟩
  have hrd:zaz W (.own (some ⟨g25,0,none⟩) 2 2 3 1 [.int .i64 1,.int .i64 2]::.blk g4 168 (zap.enc o)::h') (some ⟨g25,0,none⟩) 2 1 [.int .i64 1,.int .i64 2]:=zaz.own mem0 rfl (List.all_eq_true.1 (rfl:([.int .i64 1,.int .i64 2]:List Value).all Value.oneCell'=true))
  rcases(show k=0∨k=1∨k=2 by omega)with rfl|rfl|rfl
  ·have hd1:decide (((0:Nat):Int)<2)=true:=by decide
   have hx2:([.int .i64 1,.int .i64 2]:List Value)[((0:Nat):Int).toNat*1]? =some (.int .i64 1):=rfl
   rcases Int.lt_or_le (zaT (zbj o) (za3 1 l)) 0 with hn|hn
   ·have hct1:=hct o 1
    rw[show decide (zaT (zbj o) (za3 1 l)≥0)=false by simp;omega]at hct1
    repeat' (first|apply zah|apply zaa|apply zam|apply zaj|apply zag|apply zac hT;iterate 4 exact rfl|(apply zaM hT;(iterate 4 exact rfl);(iterate 2 (first|omega)))|apply zaJ hT;(iterate 8 exact rfl);(iterate 2 omega);exact rfl|apply zad;(iterate 5 exact rfl);exact zbe hT rfl rfl hrd rfl hx2|apply zau (hs:=(hS 1 _ (.tail _ (.tail _ m1)) (.tail _ (.tail _ m2))));(iterate 7 exact rfl);rintro _ _ ⟨AS,cS,rfl,rfl,hfS⟩|(apply zab (hs:=(hct1 _ _ _ _ (by omega) hfS mX mX));iterate 7 exact rfl)|apply zas;iterate 2 exact rfl|apply zan;iterate 2 exact rfl)
    all_goals first
     |(exfalso;omega)
     |exact zaD 1 (by decide) ⟨by omega,fun _=>hn,fun h=>absurd h (by decide)⟩ ⟨rfl,rfl,rfl,rfl,rfl,trivial⟩ dX
     |(apply zdt;exact zaD 1 (by decide) ⟨by omega,fun _=>hn,fun h=>absurd h (by decide)⟩ ⟨rfl,rfl,rfl,rfl,rfl,trivial⟩ dX)
     |skip
   ·have hct1:=hct o 1
    rw[show decide (zaT (zbj o) (za3 1 l)≥0)=true by simp;omega]at hct1
    repeat' (first|apply zah|apply zaa|apply zak|apply zam|apply zaj|apply zag|apply zac hT;iterate 4 exact rfl|apply zaJ hT;(iterate 8 exact rfl);(iterate 2 omega);exact rfl|apply zad;(iterate 5 exact rfl);exact zbe hT rfl rfl hrd rfl hx2|apply zau (hs:=(hS 1 _ (.tail _ (.tail _ m1)) (.tail _ (.tail _ m2))));(iterate 7 exact rfl);rintro _ _ ⟨AS,cS,rfl,rfl,hfS⟩|(apply zab (hs:=(hct1 _ _ _ _ (by omega) hfS mX mX));iterate 7 exact rfl)|apply zas;iterate 2 exact rfl)
    all_goals first
     |(exfalso;omega)
     |(apply ret1;exact rfl
       refine⟨?_,dX⟩
       rw[show decide (zaT (zbj o) l<0)=false by rw[decide_eq_false_iff_not,hcl];omega,Bool.and_false])
     |skip
  ·have hd1:decide (((1:Nat):Int)<2)=true:=by decide
   have hx2:([.int .i64 1,.int .i64 2]:List Value)[((1:Nat):Int).toNat*1]? =some (.int .i64 2):=rfl
   rcases Int.lt_or_le (zaT (zbj o) (za3 2 l)) 0 with hn|hn
   ·have hct1:=hct o 2
    rw[show decide (zaT (zbj o) (za3 2 l)≥0)=false by simp;omega]at hct1
    repeat' (first|apply zah|apply zaa|apply zam|apply zaj|apply zag|apply zac hT;iterate 4 exact rfl|(apply zaM hT;(iterate 4 exact rfl);(iterate 2 (first|omega)))|apply zaJ hT;(iterate 8 exact rfl);(iterate 2 omega);exact rfl|apply zad;(iterate 5 exact rfl);exact zbe hT rfl rfl hrd rfl hx2|apply zau (hs:=(hS 2 _ (.tail _ (.tail _ m1)) (.tail _ (.tail _ m2))));(iterate 7 exact rfl);rintro _ _ ⟨AS,cS,rfl,rfl,hfS⟩|(apply zab (hs:=(hct1 _ _ _ _ (by omega) hfS mX mX));iterate 7 exact rfl)|apply zas;iterate 2 exact rfl|apply zan;iterate 2 exact rfl)
    all_goals first
     |(exfalso;omega)
     |exact zaD 2 (by decide) ⟨by omega,fun _=>hk1 (by decide),fun _=>hn⟩ ⟨rfl,rfl,rfl,rfl,rfl,trivial⟩ dX
     |(apply zdt;exact zaD 2 (by decide) ⟨by omega,fun _=>hk1 (by decide),fun _=>hn⟩ ⟨rfl,rfl,rfl,rfl,rfl,trivial⟩ dX)
     |skip
   ·have hct1:=hct o 2
    rw[show decide (zaT (zbj o) (za3 2 l)≥0)=true by simp;omega]at hct1
    repeat' (first|apply zah|apply zaa|apply zak|apply zam|apply zaj|apply zag|apply zac hT;iterate 4 exact rfl|apply zaJ hT;(iterate 8 exact rfl);(iterate 2 omega);exact rfl|apply zad;(iterate 5 exact rfl);exact zbe hT rfl rfl hrd rfl hx2|apply zau (hs:=(hS 2 _ (.tail _ (.tail _ m1)) (.tail _ (.tail _ m2))));(iterate 7 exact rfl);rintro _ _ ⟨AS,cS,rfl,rfl,hfS⟩|(apply zab (hs:=(hct1 _ _ _ _ (by omega) hfS mX mX));iterate 7 exact rfl)|apply zas;iterate 2 exact rfl)
    all_goals first
     |(exfalso;omega)
     |(apply ret1;exact rfl
       refine⟨?_,dX⟩
       rw[show decide (zaT (zbj o) l<0)=false by rw[decide_eq_false_iff_not,hcl];omega,Bool.and_false])
     |skip
  ·have hd1:decide (((2:Nat):Int)<2)=false:=by decide
   have hall:=hcl.2 ⟨hk1 (by decide),hk2 (by decide)⟩
   rw[decide_eq_true hall,Bool.and_true]
   cases hok:okO o
   ·rw[hok]at hadd
    repeat' (first|apply zah|apply zaa|apply zak|apply zaN|apply zag|apply zac hT;iterate 4 exact rfl|(apply zes [.blk g4 168 (zap.enc o)] [] [52,229] (.step 1 <| .step 0 <| .step 2 <| .step 3 <| .step 4 <| .nil) hmix;decide+kernel)|apply zcJ|apply zb7;exact rfl|(apply zcp (hs:=(zgl W _));(iterate 7 exact rfl);(rintro _ _ ⟨pn,An,cn,rfl,rfl⟩;refine⟨by(apply zfR;exact mX),?_⟩))|(apply zcp (hs:=(hadd _ _ _ _));(iterate 7 exact rfl);(rintro _ _ ⟨rfl,An2,cn2,rfl⟩;refine⟨by(apply zfR;exact mX),?_⟩))|((first|(apply zeq;(iterate 5 exact rfl);first|(apply zfR;exact mX)));first|(apply zaF hT;exact rfl;exact rfl;exact mX;exact rfl))|apply zan;iterate 2 exact rfl)
    all_goals first
     |(exfalso;omega)
     |(apply ret1;exact rfl;exact⟨rfl,dX⟩)
     |skip
   ·rw[hok]at hadd
    repeat' (first|apply zah|apply zaa|apply zak|apply zaN|apply zag|apply zac hT;iterate 4 exact rfl|(apply zes [.blk g4 168 (zap.enc o)] [] [52,229] (.step 1 <| .step 0 <| .step 2 <| .step 3 <| .step 4 <| .nil) hmix;decide+kernel)|apply zcJ|apply zb7;exact rfl|(apply zcp (hs:=(zgl W _));(iterate 7 exact rfl);(rintro _ _ ⟨pn,An,cn,rfl,rfl⟩;refine⟨by(apply zfR;exact mX),?_⟩))|(apply zcp (hs:=(hadd _ _ _ _));(iterate 7 exact rfl);(rintro _ _ ⟨rfl,An2,cn2,rfl⟩;refine⟨by(apply zfR;exact mX),?_⟩))|((first|(apply zeq;(iterate 5 exact rfl);first|(apply zfR;exact mX)));first|(apply zaF hT;exact rfl;exact rfl;exact mX;exact rfl))|apply zan;iterate 2 exact rfl)
    all_goals first
     |(exfalso;omega)
     |(apply ret1;exact rfl;exact⟨rfl,dX⟩)
     |skip
theorem znK {how:Int}{o:zap}{l:List zap}(h:newB how o l=true):isB o.side=true:=by
 unfold newB at h
 simp only[Bool.and_eq_true]at h
 have:=zlj h.2.2.2.1
 unfold asX at this
 split at this<;>exact this
theorem zkE (W:World)(p:Nat)(A:Option Addr)(c:Nat)(l:List zap)(o:zap)(how:Int)(hB:za6 l):
 zaw Tryz.prog W 225 [.pointer (some ⟨p,0,none⟩),.agg o.enc.toArray,.int .i64 how] (za2 p A c l []) (.int .i64 (zbC how o l)):=by
 refine zaw.ofD (fun h' hs=> ?_)
 have m1:=hs _ mem0
 have m2:=hs _ mem1
 have hN:=zkD W p A c l o how hB
 have hS:=zgU W how
 have hL:=zo8 W p A c l
 have hM:=fun h m1 m2=>zeW W h p A c l o how hB m1 m2
 have hWd:=zkC W p A c l o how hB
 refine zaf Tryz.func225 rfl rfl Tryz.results225 Tryz.ntmps225 rfl rfl ?_
 cases hnb:newB how o l
 ·have hv:zbC how o l=1:=by unfold zbC;rw[if_pos hnb]
  rw[hv]
  rw[hnb]at hN
  repeat' (first|apply zah|apply zaa|apply zak|apply zaj|apply zag|apply zac hT;iterate 4 exact rfl|apply zaA;(iterate 5 exact rfl);intro g4|apply zab (hs:=(hN.mono (zbz (.tail _ m1) (.tail _ m2))));iterate 7 exact rfl|(apply zad;(iterate 5 exact rfl);first|(apply zaF hT;exact rfl;exact rfl;exact mX;exact rfl))|apply zas;iterate 2 exact rfl)
  all_goals first
   |(exfalso;omega)
   |(apply ret1;exact rfl;exact⟨rfl,dX⟩)
 rw[hnb]at hN
 have e0:¬newB how o l=false:=by rw[hnb];decide
 by_cases h3:zb9 how=true∧l.length≥64
 ·have hv:zbC how o l=3:=by unfold zbC;rw[if_neg e0,if_pos h3]
  rw[hv]
  rw[h3.1]at hS
  repeat' (first|apply zah|apply zaa|apply zak|apply zaj|apply zag|apply zac hT;iterate 4 exact rfl|apply zaA;(iterate 5 exact rfl);intro g4|apply zab (hs:=(hN.mono (zbz (.tail _ m1) (.tail _ m2))));iterate 7 exact rfl|(apply zab (hs:=(hS.mono (by simp)));iterate 7 exact rfl)|apply zab (hs:=(hL.mono (zbz (.tail _ m1) (.tail _ m2))));iterate 7 exact rfl|(apply zad;(iterate 5 exact rfl);first|(apply zaF hT;exact rfl;exact rfl;exact mX;exact rfl))|apply zan;iterate 2 exact rfl|(apply zal;exact rfl;all_goals(intro hb;(try dsimp only at hb);(try simp only[hb]);(first|replace hb:=odt hb|replace hb:=odf hb);(try omega))))
  all_goals first
   |(exfalso;omega)
   |(apply ret1;exact rfl;exact⟨rfl,dX⟩)
 have hst:zb9 how=false∨(zb9 how=true∧l.length<64):=by
  cases h:zb9 how
  ·exact .inl rfl
  ·refine .inr ⟨rfl,?_⟩
   rcases Nat.lt_or_ge l.length 64 with h2|h2
   ·exact h2
   ·exact absurd ⟨h,h2⟩ h3
 by_cases h16:how=3
 ·have hs3:zb9 how=true:=by rw[h16];rfl
  have hll:l.length<64:=by rcases hst with h|h;(rw[hs3]at h;cases h);exact h.2
  rw[hs3]at hS
  by_cases hm0:(zaV how o l).length>0
  ·have hv:zbC how o l=16:=by unfold zbC;rw[if_neg e0,if_neg h3,if_pos ⟨h16,hm0⟩]
   rw[hv]
   generalize zaV how o l=ms at hM hm0
   repeat' (first|apply zah|apply zaa|apply zak|apply zaj|apply zag|apply zac hT;iterate 4 exact rfl|apply zaA;(iterate 5 exact rfl);intro g4|apply zab (hs:=(hN.mono (zbz (.tail _ m1) (.tail _ m2))));iterate 7 exact rfl|(apply zab (hs:=(hS.mono (by simp)));iterate 7 exact rfl)|apply zab (hs:=(hL.mono (zbz (.tail _ m1) (.tail _ m2))));iterate 7 exact rfl|apply zau (hs:=(hM _ (.tail _ m1) (.tail _ m2)));(iterate 7 exact rfl);rintro _ _ ⟨AM,cM,rfl,rfl,hfM⟩|(apply zad;(iterate 5 exact rfl);first|(apply zaF hT;exact rfl;exact rfl;exact mX;exact rfl))|apply zan;iterate 2 exact rfl|(apply zaH;exact rfl;all_goals(intro hb;(fail_if_success (change true=true at hb));(fail_if_success (change false=false at hb));(try dsimp only at hb);(try simp only[hb]);(first|replace hb:=odt hb|replace hb:=odf hb);(try omega)))|(apply zal;exact rfl;all_goals(intro hb;(try dsimp only at hb);(try simp only[hb]);(first|replace hb:=odt hb|replace hb:=odf hb);(try omega))))
   all_goals first
    |(exfalso;omega)
    |(apply ret1;exact rfl;exact⟨rfl,dX⟩)
  ·have hv:zbC how o l=0:=by unfold zbC;rw[if_neg e0,if_neg h3,if_neg (fun h=>hm0 h.2),if_neg (by omega)]
   rw[hv]
   generalize zaV how o l=ms at hM hm0
   repeat' (first|apply zah|apply zaa|apply zak|apply zam|apply zaj|apply zag|apply zac hT;iterate 4 exact rfl|apply zaK;iterate 3 exact rfl|apply zaA;(iterate 5 exact rfl);intro g4|apply zab (hs:=(hN.mono (zbz (.tail _ m1) (.tail _ m2))));iterate 7 exact rfl|(apply zab (hs:=(hS.mono (by simp)));iterate 7 exact rfl)|apply zab (hs:=(hL.mono (zbz (.tail _ m1) (.tail _ m2))));iterate 7 exact rfl|apply zau (hs:=(hM _ (.tail _ m1) (.tail _ m2)));(iterate 7 exact rfl);rintro _ _ ⟨AM,cM,rfl,rfl,hfM⟩|apply zaC [240] [] hmix;decide+kernel|(apply zad;(iterate 5 exact rfl);first|(apply zaF hT;exact rfl;exact rfl;exact mX;exact rfl))|apply zan;iterate 2 exact rfl|(apply zaH;exact rfl;all_goals(intro hb;(fail_if_success (change true=true at hb));(fail_if_success (change false=false at hb));(try dsimp only at hb);(try simp only[hb]);(first|replace hb:=odt hb|replace hb:=odf hb);(try omega)))|(apply zal;exact rfl;all_goals(intro hb;(try dsimp only at hb);(try simp only[hb]);(first|replace hb:=odt hb|replace hb:=odf hb);(try omega))))
   all_goals first
    |(exfalso;omega)
    |(apply ret1;exact rfl;exact⟨rfl,dX⟩)
 by_cases h17:how=2
 ·have hs2:zb9 how=false:=by rw[h17];rfl
  rw[hs2]at hS
  by_cases hw0:zga how o l<o.left
  ·have hv:zbC how o l=17:=by unfold zbC;rw[if_neg e0,if_neg h3,if_neg (fun h=>h16 h.1),if_pos ⟨h17,hw0⟩]
   rw[hv]
   generalize zga how o l=wv at hWd hw0
   repeat' (first|apply zah|apply zaa|apply zak|apply zaj|apply zag|apply zac hT;iterate 4 exact rfl|apply zaK;iterate 3 exact rfl|apply zaA;(iterate 5 exact rfl);intro g4|apply zab (hs:=(hN.mono (zbz (.tail _ m1) (.tail _ m2))));iterate 7 exact rfl|(apply zab (hs:=(hS.mono (by simp)));iterate 7 exact rfl)|apply zaC [240] [] hmix;decide+kernel|apply zab (hs:=(hWd.mono (zbz (.tail _ m1) (.tail _ m2))));iterate 7 exact rfl|(apply zad;(iterate 5 exact rfl);first|(apply zaq hT;exact rfl;exact rfl;exact mX;exact rfl;exact rfl)|(apply zaF hT;exact rfl;exact rfl;exact mX;exact rfl))|apply zan;iterate 2 exact rfl|(apply zaH;exact rfl;all_goals(intro hb;(fail_if_success (change true=true at hb));(fail_if_success (change false=false at hb));(try dsimp only at hb);(try simp only[hb]);(first|replace hb:=odt hb|replace hb:=odf hb);(try omega)))|(apply zal;exact rfl;all_goals(intro hb;(try dsimp only at hb);(try simp only[hb]);(first|replace hb:=odt hb|replace hb:=odf hb);(try omega))))
   all_goals first
    |(exfalso;omega)
    |(apply ret1;exact rfl;exact⟨rfl,dX⟩)
  ·have hv:zbC how o l=0:=by unfold zbC;rw[if_neg e0,if_neg h3,if_neg (fun h=>h16 h.1),if_neg (fun h=>hw0 h.2)]
   rw[hv]
   generalize zga how o l=wv at hWd hw0
   repeat' (first|apply zah|apply zaa|apply zak|apply zam|apply zaj|apply zag|apply zac hT;iterate 4 exact rfl|apply zaK;iterate 3 exact rfl|apply zaA;(iterate 5 exact rfl);intro g4|apply zab (hs:=(hN.mono (zbz (.tail _ m1) (.tail _ m2))));iterate 7 exact rfl|(apply zab (hs:=(hS.mono (by simp)));iterate 7 exact rfl)|apply zaC [240] [] hmix;decide+kernel|apply zab (hs:=(hWd.mono (zbz (.tail _ m1) (.tail _ m2))));iterate 7 exact rfl|(apply zad;(iterate 5 exact rfl);first|(apply zaq hT;exact rfl;exact rfl;exact mX;exact rfl;exact rfl)|(apply zaF hT;exact rfl;exact rfl;exact mX;exact rfl))|apply zan;iterate 2 exact rfl|(apply zaH;exact rfl;all_goals(intro hb;(fail_if_success (change true=true at hb));(fail_if_success (change false=false at hb));(try dsimp only at hb);(try simp only[hb]);(first|replace hb:=odt hb|replace hb:=odf hb);(try omega)))|(apply zal;exact rfl;all_goals(intro hb;(try dsimp only at hb);(try simp only[hb]);(first|replace hb:=odt hb|replace hb:=odf hb);(try omega))))
   all_goals first
    |(exfalso;omega)
    |(apply ret1;exact rfl;exact⟨rfl,dX⟩)
 have hv:zbC how o l=0:=by unfold zbC;rw[if_neg e0,if_neg h3,if_neg (fun h=>h16 h.1),if_neg (fun h=>h17 h.1)]
 rw[hv]
 rcases hst with hst|⟨hst,hll⟩
 all_goals
  rw[hst]at hS
  repeat' (first|apply zah|apply zaa|apply zak|apply zam|apply zaj|apply zag|apply zac hT;iterate 4 exact rfl|apply zaK;iterate 3 exact rfl|apply zaA;(iterate 5 exact rfl);intro g4|apply zab (hs:=(hN.mono (zbz (.tail _ m1) (.tail _ m2))));iterate 7 exact rfl|(apply zab (hs:=(hS.mono (by simp)));iterate 7 exact rfl)|apply zab (hs:=(hL.mono (zbz (.tail _ m1) (.tail _ m2))));iterate 7 exact rfl|apply zaC [240] [] hmix;decide+kernel|(apply zad;(iterate 5 exact rfl);first|(apply zaF hT;exact rfl;exact rfl;exact mX;exact rfl))|apply zan;iterate 2 exact rfl|(apply zaH;exact rfl;all_goals(intro hb;(fail_if_success (change true=true at hb));(fail_if_success (change false=false at hb));(try dsimp only at hb);(try simp only[hb]);(first|replace hb:=odt hb|replace hb:=odf hb);(try omega)))|(apply zal;exact rfl;all_goals(intro hb;(try dsimp only at hb);(try simp only[hb]);(first|replace hb:=odt hb|replace hb:=odf hb);(try omega))))
  all_goals first
   |(exfalso;omega)
   |(apply ret1;exact rfl;exact⟨rfl,dX⟩)
theorem zkF (W:World)(F:List zao)(p g:Nat)(A:Option Addr)(c:Nat)(l:List zap)(o x:zap)(hB:za6 l)(ho:0≤o.left∧o.left≤1000000)(hx:1≤x.left∧x.left≤1000000):
 zax Tryz.prog W 227 [.pointer (some ⟨p,0,none⟩),.pointer (some ⟨g,0,none⟩),.agg x.enc.toArray] (za2 p A c l (.blk g 168 o.enc::F))
  (fun v h'=>v=.agg (zbM.enc ⟨x.id,o.id,x.owner,o.owner,x.price,min o.left x.left,x.left - min o.left x.left⟩).toArray∧∃A' c',h'=za2 p A' c' (if min o.left x.left=x.left then zbf x.id l else zb2 x.id (x.left - min o.left x.left) l) (.blk g 168 (zap.enc {o with left:=o.left - min o.left x.left})::F)):=by
 refine zax.dropTo ?_
 refine zaf Tryz.func227 rfl rfl Tryz.results227 Tryz.ntmps227 rfl rfl ?_
 generalize hn:min o.left x.left=n
 have hd:=fun g5 g6=>(zfk W (.blk g6 277 ti277.zero.cells.toList::.blk g5 168 x.enc::.blk g 168 (zap.enc {o with left:=o.left - n})::F) p A c l x.id hB.le)
 have hls:=fun g5 g6=>(zjp W (.blk g6 277 ti277.zero.cells.toList::.blk g5 168 x.enc::.blk g 168 (zap.enc {o with left:=o.left - n})::F) p A c l x.id (x.left - n) hB.le)
 by_cases hc:n=x.left
 ·rw[if_pos hc]
  have hc2:(n==x.left)=true:=by simpa using hc
  repeat' (first|apply zah|apply zaa|apply zak|apply zag|apply zac hT;iterate 4 exact rfl|(apply zaM hT;(iterate 4 exact rfl);(iterate 2 (first|omega)))|apply zaA;(iterate 5 exact rfl);intro g5|(apply zay hT;(iterate 5 exact rfl);first|(fail_if_success (have q:=g6));intro g6)|(apply zaC [] [] hmix;decide+kernel)|(apply zla;(iterate 5 exact rfl);rw[hn])|(apply zar hT;(iterate 6 exact rfl);exact sX;(iterate 3 exact rfl);exact nle rfl)|(apply zaE hT (cs:=zbM.enc ⟨x.id,o.id,x.owner,o.owner,x.price,n,x.left - n⟩);iterate 4 exact rfl)|(apply zau (hs:=(zax.perm (hd g5 g6) pX));(iterate 7 exact rfl);rintro _ _ ⟨rfl,A2,c2,rfl⟩)|(apply zad;(iterate 5 exact rfl);first|(apply zaq hT;exact rfl;exact rfl;exact mX;exact rfl;exact rfl))|(apply zal;exact rfl;all_goals(intro hb;(try dsimp only at hb);(try simp only[hb]);(first|replace hb:=odt hb|replace hb:=odf hb);(try omega))))
  all_goals first
   |(exfalso;omega)
   |(apply zhv;exact rfl;exact zaF hT rfl rfl mX rfl;exact⟨_,dX,rfl,A2,c2,rfl⟩)
   |skip
 ·rw[if_neg hc]
  have hc2:(n==x.left)=false:=by simpa using hc
  repeat' (first|apply zah|apply zaa|apply zak|apply zag|apply zac hT;iterate 4 exact rfl|(apply zaM hT;(iterate 4 exact rfl);(iterate 2 (first|omega)))|apply zaA;(iterate 5 exact rfl);intro g5|(apply zay hT;(iterate 5 exact rfl);first|(fail_if_success (have q:=g6));intro g6)|(apply zaC [] [] hmix;decide+kernel)|(apply zla;(iterate 5 exact rfl);rw[hn])|(apply zar hT;(iterate 6 exact rfl);exact sX;(iterate 3 exact rfl);exact nle rfl)|(apply zaE hT (cs:=zbM.enc ⟨x.id,o.id,x.owner,o.owner,x.price,n,x.left - n⟩);iterate 4 exact rfl)|(apply zau (hs:=(zax.perm (hls g5 g6) pX));(iterate 7 exact rfl);rintro _ _ ⟨rfl,rfl⟩)|(apply zad;(iterate 5 exact rfl);first|(apply zaq hT;exact rfl;exact rfl;exact mX;exact rfl;exact rfl))|(apply zal;exact rfl;all_goals(intro hb;(try dsimp only at hb);(try simp only[hb]);(first|replace hb:=odt hb|replace hb:=odf hb);(try omega))))
  all_goals first
   |(exfalso;omega)
   |(apply zhv;exact rfl;exact zaF hT rfl rfl mX rfl;exact⟨_,dX,rfl,A,c,rfl⟩)
   |skip
theorem zfr {o:zap}{l ms:List zap}{k:Nat}{x:zap}(hx:ms[k]? =some x):runX o l (ms.take (k+1))=zdy o (runX o l (ms.take k)) x:=by
 unfold runX;rw[List.take_add_one,hx,List.foldl_append];rfl
theorem znL {o:zap}{l ms:List zap}{k:Nat}(h:(runX o l (ms.take k)).left=0):runX o l ms=runX o l (ms.take k):=by
 conv=>lhs;rw[←List.take_append_drop k ms]
 have e:runX o l (ms.take k++ms.drop k)=(ms.drop k).foldl (zdy o) (runX o l (ms.take k)):=by unfold runX;rw[List.foldl_append]
 rw[e,zhZ h]
theorem zmk {o:zap}{s:XSt}{x:zap}:(zdy o s x).fills.length≤s.fills.length+1∧(zdy o s x).gones.length≤s.gones.length+1:=by
 unfold zdy
 split
 ·omega
 ·split<;>simp
theorem zdK {o:zap}{l ms:List zap}(hl:∀x∈ms,1≤x.left)(ho:0≤o.left):∀k,k≤ms.length→0≤(runX o l (ms.take k)).left∧(runX o l (ms.take k)).left≤o.left∧(runX o l (ms.take k)).fills.length≤k∧(runX o l (ms.take k)).gones.length≤k:=by
 intro k
 induction k with
 |zero=>intro _;exact⟨ho,Int.le_refl _,Nat.le_refl _,Nat.le_refl _⟩
 |succ k ih=>
  intro hk
  obtain⟨x,hx⟩:∃x,ms[k]? =some x:=⟨ms[k]'(by omega),gge (by omega)⟩
  rw[zfr hx]
  have h1:=ih (by omega)
  have h2:=zl7 (o:=o) (s:=runX o l (ms.take k)) (hl x (mog hx)) h1.1
  have h3:=zmk (o:=o) (s:=runX o l (ms.take k)) (x:=x)
  omega
theorem zdL {how:Int}{o:zap}{l:List zap}(h:newB how o l=true):1≤o.left∧o.left≤1000000:=by
 unfold newB at h
 simp only[Bool.and_eq_true]at h
 have:=zlk h.2.2.2.1
 unfold asX at this
 split at this<;>exact this
theorem zpq (W:World)(F:List zao)(p:Nat)(A:Option Addr)(c:Nat)(l:List zap)(o:zap)(how:Int)(hB:za6 l):
 zax Tryz.prog W 207 [.pointer (some ⟨p,0,none⟩),.agg o.enc.toArray,.int .i64 how] (za2 p A c l F)
  (fun v h'=>∃Af cf Ag cg A' c',v=.tuple #[.slice Af (doV how o l).fills.length cf,.slice Ag (doV how o l).gones.length cg,.int .i64 (doV how o l).left,.int .i64 (doV how o l).err]∧
    h'=.own Af (doV how o l).fills.length cf 277 7 ((doV how o l).fills.flatMap zbM.enc)::.own Ag (doV how o l).gones.length cg 275 3 ((doV how o l).gones.flatMap zcw.enc)::za2 p A' c' (doV how o l).bk F∧
    OwnF Af (doV how o l).fills.length cf 7 ((doV how o l).fills.flatMap zbM.enc)∧OwnF Ag (doV how o l).gones.length cg 3 ((doV how o l).gones.flatMap zcw.enc)):=by
 refine zax.dropF ?_
 have hW':=fun h m1 m2=>(zkE W p A c l o how hB).mono (h':=h) (zbz m1 m2)
 have hM:=fun h m1 m2=>zeW W h p A c l o how hB m1 m2
 have hS:=zgU W how
 refine zaf Tryz.func207 rfl rfl Tryz.results207 Tryz.ntmps207 rfl rfl ?_
 by_cases hw0:zbC how o l=0
 ·rw[hw0]at hW'
  have hnb:newB how o l=true:=by
   cases h:newB how o l
   ·unfold zbC at hw0;rw[if_pos h]at hw0;omega
   ·rfl
  have hol:=zdL hnb
  have hml:=zgT how o l
  have hbl:=hB.len
  have hlf:∀x∈zaV how o l,1≤x.left∧x.left≤1000000:=fun x hx=>hB.left x (zcG hx).1
  have hsf0:∀s,s=runX o l (zaV how o l)→s=runX o l (zaV how o l):=fun _ h=>h
  generalize hms:zaV how o l=ms at hM hml hlf
  repeat' (first|apply zah|apply zaa|apply zam|apply zaj|apply zag|apply zac hT;iterate 4 exact rfl|apply zaA;(iterate 5 exact rfl);intro g4|(apply zab (hs:=(hW' _ mX mX));iterate 7 exact rfl)|(apply zau (hs:=(hM _ mX mX));(iterate 7 exact rfl);rintro _ _ ⟨AM,cM,rfl,rfl,hfM⟩)|(apply zad;(iterate 5 exact rfl);first|(apply zaF hT;exact rfl;exact rfl;exact mX;exact rfl))|apply zan;iterate 2 exact rfl)
  all_goals try omega
  refine zbI (fun w hw=>⟨_,(hw.own_nil 275 3).own_nil 277 7,?_⟩)
  refine za1 (α:=Nat×Option Addr×Nat×Option Addr×Nat×Option Addr×Nat) (E:=fun x=>[(0,.pointer (some ⟨p,0,none⟩)),(2,.int .i64 how),(4,.pointer (some ⟨g4,0,none⟩)),(6,.slice x.2.1 (runX o l (ms.take x.1)).fills.length x.2.2.1),(7,.slice x.2.2.2.1 (runX o l (ms.take x.1)).gones.length x.2.2.2.2.1),(23,.slice AM ms.length cM),(24,.int .i64 ms.length),(25,.int .i64 x.1)])
   (H:=fun x=>.own AM ms.length cM 168 6 (ms.flatMap zap.enc)::.own x.2.1 (runX o l (ms.take x.1)).fills.length x.2.2.1 277 7 ((runX o l (ms.take x.1)).fills.flatMap zbM.enc)::.own x.2.2.2.1 (runX o l (ms.take x.1)).gones.length x.2.2.2.2.1 275 3 ((runX o l (ms.take x.1)).gones.flatMap zcw.enc)::za2 p x.2.2.2.2.2.1 x.2.2.2.2.2.2 (runX o l (ms.take x.1)).bk (.blk g4 168 (zap.enc {o with left:=(runX o l (ms.take x.1)).left})::F))
   (μ:=fun x=>ms.length - x.1) (S:=fun x=>x.1≤ms.length) (0,none,0,none,0,A,c) (Nat.zero_le _) ⟨rfl,rfl,rfl,rfl,rfl,rfl,rfl,rfl,trivial⟩ (by
     show za7 _ (.own AM ms.length cM 168 6 (ms.flatMap zap.enc)::.own none 0 0 277 7 []::.own none 0 0 275 3 []::za2 p A c l (.blk g4 168 o.enc::F))
     exact dX) ?_
  rintro⟨k,Af,cf,Ag,cg,A1,c1⟩ hk
  dsimp only at hk ⊢
  have hfc:=zdK (o:=o) (l:=l) (fun x hx=>(hlf x hx).1) (by omega) k hk
  have hBs:za6 (runX o l (ms.take k)).bk:=zhX hB
  by_cases hz:(runX o l (ms.take k)).left=0
  ·have hsf:runX o l (ms.take k)=runX o l (zaV how o l):=by rw[hms];exact(znL hz).symm
   by_cases hlt:k<ms.length
   ·obtain⟨x,hx⟩:∃x,ms[k]? =some x:=⟨ms[k]'(by omega),gge (by omega)⟩
    have hx2:ms[(k:Int).toNat]? =some x:=by simpa using hx
    have hAM:=hfM.some_ (by omega)
    have hd1:decide ((k:Int)<(ms.length:Int))=true:=by simp;omega
    generalize runX o l (ms.take k)=s at hfc hBs hz hsf ⊢
    have hrs:doV how o l=⟨s.fills,s.gones,s.left,0,zdz how o s⟩:=by unfold doV;rw[if_pos hw0,←hsf]
    rw[hrs]
    by_cases hst:zb9 how=true∧s.left>0
    ·have hrx:zdz how o s=addO {o with left:=s.left} s.bk:=by unfold zdz;rw[if_pos hst]
     rw[hrx]
     rw[hst.1]at hS
     have hst2:=hst.2
     have hadd:=zgm W (.own AM ms.length cM 168 6 (ms.flatMap zap.enc)::.own Af s.fills.length cf 277 7 (s.fills.flatMap zbM.enc)::.own Ag s.gones.length cg 275 3 (s.gones.flatMap zcw.enc)::.blk g4 168 (zap.enc {o with left:=s.left})::F) p A1 c1 s.bk {o with left:=s.left} hBs.le
     repeat' (first|apply zah|apply zaa|apply zag|apply zac hT;iterate 4 exact rfl|(apply zal;exact rfl;all_goals(intro hb;(try dsimp only at hb);(try simp only[hb]);(first|replace hb:=odt hb|replace hb:=odf hb);(try omega))))
     all_goals first
      |(exfalso;omega)
      |(apply ret4;exact rfl;exact rfl;exact rfl;exact rfl
        exact⟨.own Af s.fills.length cf 277 7 (s.fills.flatMap zbM.enc)::.own Ag s.gones.length cg 275 3 (s.gones.flatMap zcw.enc)::za2 p A9 c9 (addO {o with left:=s.left} s.bk) F,dX,fun w hw=>⟨Af,cf,Ag,cg,A9,c9,rfl,rfl,hw.ownF mem0,hw.ownF mem1⟩⟩)
      |skip
    ·have hrx:zdz how o s=s.bk:=by unfold zdz;rw[if_neg hst]
     rw[hrx]
     have hcs:zb9 how=false∨(zb9 how=true∧s.left≤0):=by
      cases h:zb9 how
      ·exact .inl rfl
      ·refine .inr ⟨rfl,?_⟩
       rcases Int.lt_or_le 0 s.left with h2|h2
       ·exact absurd ⟨h,h2⟩ hst
       ·exact h2
     rcases hcs with hcs|⟨hcs,hcl⟩
     all_goals
      rw[hcs]at hS
      repeat' (first|apply zah|apply zaa|apply zak|apply zam|apply zaN|apply zaj|apply zag|apply zac hT;iterate 4 exact rfl|apply zaK;iterate 3 exact rfl|apply zaJ hT;(iterate 8 exact rfl);(iterate 2 omega);exact hAM|apply zad;(iterate 5 exact rfl);exact zaO hT rfl rfl (hfM.reads mem0) zap.enc_len rfl hx2 rfl|(apply zay hT;(iterate 5 exact rfl);first|(fail_if_success (have q:=g12));intro g12)|(apply zab (hs:=(hS.mono (by simp)));iterate 7 exact rfl)|(apply zaC [] [] hmix;decide+kernel)|(apply zar hT;(iterate 6 exact rfl);exact sX;(iterate 3 exact rfl);exact nle rfl)|(apply zad;(iterate 5 exact rfl);first|(apply zaq hT;exact rfl;exact rfl;exact mX;exact rfl;exact rfl))|(apply zan;iterate 2 exact rfl)|(apply zal;exact rfl;all_goals(intro hb;(try dsimp only at hb);(try simp only[hb]);(first|replace hb:=odt hb|replace hb:=odf hb);(try omega))))
      all_goals first
       |(exfalso;omega)
       |(apply ret4;exact rfl;exact rfl;exact rfl;exact rfl
         exact⟨.own Af s.fills.length cf 277 7 (s.fills.flatMap zbM.enc)::.own Ag s.gones.length cg 275 3 (s.gones.flatMap zcw.enc)::za2 p A1 c1 s.bk F,dX,fun w hw=>⟨Af,cf,Ag,cg,A1,c1,rfl,rfl,hw.ownF mem0,hw.ownF mem1⟩⟩)
       |skip
   ·obtain rfl:k=ms.length:=by omega
    have hd1:decide ((ms.length:Int)<(ms.length:Int))=false:=by simp
    generalize runX o l (ms.take ms.length)=s at hfc hBs hz hsf ⊢
    have hrs:doV how o l=⟨s.fills,s.gones,s.left,0,zdz how o s⟩:=by unfold doV;rw[if_pos hw0,←hsf]
    rw[hrs]
    by_cases hst:zb9 how=true∧s.left>0
    ·have hrx:zdz how o s=addO {o with left:=s.left} s.bk:=by unfold zdz;rw[if_pos hst]
     rw[hrx]
     rw[hst.1]at hS
     have hst2:=hst.2
     have hadd:=zgm W (.own AM ms.length cM 168 6 (ms.flatMap zap.enc)::.own Af s.fills.length cf 277 7 (s.fills.flatMap zbM.enc)::.own Ag s.gones.length cg 275 3 (s.gones.flatMap zcw.enc)::.blk g4 168 (zap.enc {o with left:=s.left})::F) p A1 c1 s.bk {o with left:=s.left} hBs.le
     repeat' (first|apply zah|apply zaa|apply zag|apply zac hT;iterate 4 exact rfl|(apply zal;exact rfl;all_goals(intro hb;(try dsimp only at hb);(try simp only[hb]);(first|replace hb:=odt hb|replace hb:=odf hb);(try omega))))
     all_goals first
      |(exfalso;omega)
      |(apply ret4;exact rfl;exact rfl;exact rfl;exact rfl
        exact⟨.own Af s.fills.length cf 277 7 (s.fills.flatMap zbM.enc)::.own Ag s.gones.length cg 275 3 (s.gones.flatMap zcw.enc)::za2 p A9 c9 (addO {o with left:=s.left} s.bk) F,dX,fun w hw=>⟨Af,cf,Ag,cg,A9,c9,rfl,rfl,hw.ownF mem0,hw.ownF mem1⟩⟩)
      |skip
    ·have hrx:zdz how o s=s.bk:=by unfold zdz;rw[if_neg hst]
     rw[hrx]
     have hcs:zb9 how=false∨(zb9 how=true∧s.left≤0):=by
      cases h:zb9 how
      ·exact .inl rfl
      ·refine .inr ⟨rfl,?_⟩
       rcases Int.lt_or_le 0 s.left with h2|h2
       ·exact absurd ⟨h,h2⟩ hst
       ·exact h2
     rcases hcs with hcs|⟨hcs,hcl⟩
     all_goals
      rw[hcs]at hS
      repeat' (first|apply zah|apply zaa|apply zak|apply zam|apply zaN|apply zag|apply zac hT;iterate 4 exact rfl|apply zaK;iterate 3 exact rfl|(apply zab (hs:=(hS.mono (by simp)));iterate 7 exact rfl)|apply zaC [] [] hmix;decide+kernel|(apply zad;(iterate 5 exact rfl);first|(apply zaq hT;exact rfl;exact rfl;exact mX;exact rfl;exact rfl))|apply zan;iterate 2 exact rfl|(apply zal;exact rfl;all_goals(intro hb;(try dsimp only at hb);(try simp only[hb]);(first|replace hb:=odt hb|replace hb:=odf hb);(try omega))))
      all_goals first
       |(exfalso;omega)
       |(apply ret4;exact rfl;exact rfl;exact rfl;exact rfl
         exact⟨.own Af s.fills.length cf 277 7 (s.fills.flatMap zbM.enc)::.own Ag s.gones.length cg 275 3 (s.gones.flatMap zcw.enc)::za2 p A1 c1 s.bk F,dX,fun w hw=>⟨Af,cf,Ag,cg,A1,c1,rfl,rfl,hw.ownF mem0,hw.ownF mem1⟩⟩)
       |skip
  ·by_cases hlt:k<ms.length
   ·obtain⟨x,hx⟩:∃x,ms[k]? =some x:=⟨ms[k]'(by omega),gge (by omega)⟩
    have hx2:ms[(k:Int).toNat]? =some x:=by simpa using hx
    have hAM:=hfM.some_ (by omega)
    have hd1:decide ((k:Int)<(ms.length:Int))=true:=by simp;omega
    have hst:=zfr (o:=o) (l:=l) hx
    have hxl:=hlf x (mog hx)
    generalize runX o l (ms.take k)=s at hfc hBs hz hst ⊢
    have hz2:(s.left==0)=false:=beq_eq_false_iff_ne.2 hz
    unfold zdy at hst
    rw[if_neg hz]at hst
    by_cases hown:x.owner=o.owner
    ·rw[if_pos hown]at hst
     have hdr:=fun g12=>zfk W (.blk g12 168 x.enc::.own AM ms.length cM 168 6 (ms.flatMap zap.enc)::.own Af s.fills.length cf 277 7 (s.fills.flatMap zbM.enc)::.own Ag s.gones.length cg 275 3 (s.gones.flatMap zcw.enc)::.blk g4 168 (zap.enc {o with left:=s.left})::F) p A1 c1 s.bk x.id hBs.le
     repeat' (first|apply zah|apply zaa|apply zam|apply zaN|apply zaj|apply zag|apply zac hT;iterate 4 exact rfl|(apply zaM hT;(iterate 4 exact rfl);(iterate 2 (first|omega)))|apply zaJ hT;(iterate 8 exact rfl);(iterate 2 omega);exact hAM|apply zad;(iterate 5 exact rfl);exact zaO hT rfl rfl (hfM.reads mem0) zap.enc_len rfl hx2 rfl|(apply zay hT;(iterate 5 exact rfl);first|(fail_if_success (have q:=g12));intro g12)|(apply zar hT;(iterate 6 exact rfl);exact sX;(iterate 3 exact rfl);exact nle rfl)|(apply zau (hs:=(zax.perm (hdr g12) pX));(iterate 7 exact rfl);rintro _ _ ⟨rfl,A9,c9,rfl⟩)|(apply zaE hT (cs:=zcw.enc ⟨x.id,x.owner,x.left⟩);iterate 4 exact rfl)|(apply zaB hT;(iterate 12 exact rfl);intro g)|(apply zbb hT;(iterate 10 exact rfl);exact sX;exact zaz.own mem0 rfl (zcw.enc_one ⟨x.id,x.owner,x.left⟩);omega;(show(_:Nat)*24≤_;omega);intro A' c')|(apply zad;(iterate 5 exact rfl);first|(apply zaq hT;exact rfl;exact rfl;exact mX;exact rfl;exact rfl))|(apply zal;exact rfl;all_goals(intro hb;(try dsimp only at hb);(try simp only[hb]);(first|replace hb:=odt hb|replace hb:=odf hb);(try omega))))
     all_goals first
      |(exfalso;omega)
      |(refine zaD (k+1,Af,cf,A',c',A9,c9) (by(try dsimp only);omega) (by(try dsimp only);omega) ?_ ?_
        ·dsimp only;rw[hst];exact⟨rfl,rfl,rfl,rfl,by rw[lla];rfl,rfl,rfl,rfl,trivial⟩
        ·dsimp only;rw[hst];dsimp only;rw[lla,List.flatMap_append];exact dX)
      |skip
    ·rw[if_neg hown]at hst
     have htr:=fun g12=>zkF W (.blk g12 168 x.enc::.own AM ms.length cM 168 6 (ms.flatMap zap.enc)::.own Af s.fills.length cf 277 7 (s.fills.flatMap zbM.enc)::.own Ag s.gones.length cg 275 3 (s.gones.flatMap zcw.enc)::F) p g4 A1 c1 s.bk {o with left:=s.left} x hBs (by dsimp only;omega) hxl
     dsimp only at htr hst
     generalize hn:min s.left x.left=n at htr hst
     repeat' (first|apply zah|apply zaa|apply zam|apply zaj|apply zag|apply zac hT;iterate 4 exact rfl|(apply zaM hT;(iterate 4 exact rfl);(iterate 2 (first|omega)))|apply zaJ hT;(iterate 8 exact rfl);(iterate 2 omega);exact hAM|apply zad;(iterate 5 exact rfl);exact zaO hT rfl rfl (hfM.reads mem0) zap.enc_len rfl hx2 rfl|(apply zay hT;(iterate 5 exact rfl);first|(fail_if_success (have q:=g12));intro g12)|(apply zar hT;(iterate 6 exact rfl);exact sX;(iterate 3 exact rfl);exact nle rfl)|(apply zau (hs:=(zax.perm (htr g12) pX));(iterate 7 exact rfl);rintro _ _ ⟨rfl,A9,c9,rfl⟩)|(apply zaB hT;(iterate 12 exact rfl);intro g)|(apply zbb hT;(iterate 10 exact rfl);exact sX;exact zaz.own mem0 rfl (zbM.enc_one ⟨x.id,o.id,x.owner,o.owner,x.price,n,x.left - n⟩);omega;(show(_:Nat)*56≤_;omega);intro A' c')|(apply zad;(iterate 5 exact rfl);first|(apply zaq hT;exact rfl;exact rfl;exact mX;exact rfl;exact rfl)|(apply zaF hT;exact rfl;exact rfl;exact mX;exact rfl))|(apply zal;exact rfl;all_goals(intro hb;(try dsimp only at hb);(try simp only[hb]);(first|replace hb:=odt hb|replace hb:=odf hb);(try omega))))
     all_goals first
      |(exfalso;omega)
      |(refine zaD (k+1,A',c',Ag,cg,A9,c9) (by(try dsimp only);omega) (by(try dsimp only);omega) ?_ ?_
        ·dsimp only;rw[hst];exact⟨rfl,rfl,rfl,by rw[lla];rfl,rfl,rfl,rfl,rfl,trivial⟩
        ·dsimp only;rw[hst];dsimp only;rw[lla,List.flatMap_append];exact dX)
      |skip
   ·obtain rfl:k=ms.length:=by omega
    have hd1:decide ((ms.length:Int)<(ms.length:Int))=false:=by simp
    have hsf:runX o l (ms.take ms.length)=runX o l (zaV how o l):=by rw[hms,List.take_length]
    generalize runX o l (ms.take ms.length)=s at hfc hBs hz hsf ⊢
    have hrs:doV how o l=⟨s.fills,s.gones,s.left,0,zdz how o s⟩:=by unfold doV;rw[if_pos hw0,←hsf]
    rw[hrs]
    by_cases hst:zb9 how=true∧s.left>0
    ·have hrx:zdz how o s=addO {o with left:=s.left} s.bk:=by unfold zdz;rw[if_pos hst]
     rw[hrx]
     rw[hst.1]at hS
     have hst2:=hst.2
     have hadd:=zgm W (.own AM ms.length cM 168 6 (ms.flatMap zap.enc)::.own Af s.fills.length cf 277 7 (s.fills.flatMap zbM.enc)::.own Ag s.gones.length cg 275 3 (s.gones.flatMap zcw.enc)::.blk g4 168 (zap.enc {o with left:=s.left})::F) p A1 c1 s.bk {o with left:=s.left} hBs.le
     repeat' (first|apply zah|apply zaa|apply zak|apply zaN|apply zag|apply zac hT;iterate 4 exact rfl|(apply zab (hs:=(hS.mono (by simp)));iterate 7 exact rfl)|(apply zau (hs:=(zax.perm hadd pX));(iterate 7 exact rfl);rintro _ _ ⟨rfl,A9,c9,rfl⟩)|apply zaC [] [] hmix;decide+kernel|(apply zad;(iterate 5 exact rfl);first|(apply zaq hT;exact rfl;exact rfl;exact mX;exact rfl;exact rfl)|(apply zaF hT;exact rfl;exact rfl;exact mX;exact rfl))|(apply zal;exact rfl;all_goals(intro hb;(try dsimp only at hb);(try simp only[hb]);(first|replace hb:=odt hb|replace hb:=odf hb);(try omega))))
     all_goals first
      |(exfalso;omega)
      |(apply ret4;exact rfl;exact rfl;exact rfl;exact rfl
        exact⟨.own Af s.fills.length cf 277 7 (s.fills.flatMap zbM.enc)::.own Ag s.gones.length cg 275 3 (s.gones.flatMap zcw.enc)::za2 p A9 c9 (addO {o with left:=s.left} s.bk) F,dX,fun w hw=>⟨Af,cf,Ag,cg,A9,c9,rfl,rfl,hw.ownF mem0,hw.ownF mem1⟩⟩)
      |skip
    ·have hrx:zdz how o s=s.bk:=by unfold zdz;rw[if_neg hst]
     rw[hrx]
     have hcs:zb9 how=false∨(zb9 how=true∧s.left≤0):=by
      cases h:zb9 how
      ·exact .inl rfl
      ·refine .inr ⟨rfl,?_⟩
       rcases Int.lt_or_le 0 s.left with h2|h2
       ·exact absurd ⟨h,h2⟩ hst
       ·exact h2
     rcases hcs with hcs|⟨hcs,hcl⟩
     all_goals
      rw[hcs]at hS
      repeat' (first|apply zah|apply zaa|apply zak|apply zam|apply zaN|apply zag|apply zac hT;iterate 4 exact rfl|apply zaK;iterate 3 exact rfl|(apply zab (hs:=(hS.mono (by simp)));iterate 7 exact rfl)|apply zaC [] [] hmix;decide+kernel|(apply zad;(iterate 5 exact rfl);first|(apply zaq hT;exact rfl;exact rfl;exact mX;exact rfl;exact rfl))|apply zan;iterate 2 exact rfl|(apply zal;exact rfl;all_goals(intro hb;(try dsimp only at hb);(try simp only[hb]);(first|replace hb:=odt hb|replace hb:=odf hb);(try omega))))
      all_goals first
       |(exfalso;omega)
       |(apply ret4;exact rfl;exact rfl;exact rfl;exact rfl
         exact⟨.own Af s.fills.length cf 277 7 (s.fills.flatMap zbM.enc)::.own Ag s.gones.length cg 275 3 (s.gones.flatMap zcw.enc)::za2 p A1 c1 s.bk F,dX,fun w hw=>⟨Af,cf,Ag,cg,A1,c1,rfl,rfl,hw.ownF mem0,hw.ownF mem1⟩⟩)
       |skip
 ·have hd:doV how o l=⟨[],[],0,zbC how o l,l⟩:=by unfold doV;rw[if_neg hw0]
  rw[hd]
  have hne:(zbC how o l != 0)=true:=by simp[hw0]
  generalize zbC how o l=e at hW' hw0 hne
  refine zbI (fun w hw=>⟨_,(hw.own_nil 275 3).own_nil 277 7,?_⟩)
  repeat' (first|apply zah|apply zaa|apply zak|apply zag|apply zac hT;iterate 4 exact rfl|apply zaA;(iterate 5 exact rfl);intro g4|(apply zab (hs:=(hW' _ mX mX));iterate 7 exact rfl)|(apply zad;(iterate 5 exact rfl);first|(apply zaF hT;exact rfl;exact rfl;exact mX;exact rfl))|(apply zal;exact rfl;all_goals(intro hb;(try dsimp only at hb);(try simp only[hb]);(first|replace hb:=zbc hb|replace hb:=zbd hb);(try omega))))
  all_goals first
   |(exfalso;omega)
   |(apply ret4;exact rfl;exact rfl;exact rfl;exact rfl
     exact⟨.own none 0 0 277 7 []::.own none 0 0 275 3 []::za2 p A c l F,dX,fun w hw=>⟨none,0,none,0,A,c,rfl,rfl,hw.ownF mem0,hw.ownF mem1⟩⟩)
   |(exfalso;simp_all;done)
   |skip
end Go.Proofs.YteocfhdocpeokaaGreat
namespace Go.Proofs.YteocfhdocpeokaaGreat
open Go Go.Sl
def sumQ (f:List zbM):Int:=(f.map zbM.qty).sum
theorem zls (a b:List zbM):sumQ (a++b)=sumQ a+sumQ b:=by simp only[sumQ,List.map_append];exact zeu _ _
theorem zdM {how:Int}{o:zap}{l:List zap}(h:zbC how o l=0):newB how o l=true:=by
 cases hn:newB how o l
 ·unfold zbC at h;rw[if_pos hn]at h;omega
 ·rfl
structure zs0 (o:zap)(f:zbM)(x:zap):Prop where
 maker:f.maker=x.id
 taker:f.taker=o.id
 mparty:f.mparty=x.owner
 tparty:f.tparty=o.owner
 price:f.price=x.price
 left:f.left=x.left - f.qty
 qty:1≤f.qty
 own:x.owner≠o.owner
structure WayX (o:zap)(l:List zap)(done:List zap)(s:XSt):Prop where
 sum:sumQ s.fills=o.left - s.left
 left:s.left=o.left - min o.left (sumL (zcS o done))
 mks:∃xs:List zap,xs.Sublist done∧xs.length=s.fills.length∧(∀(i:Nat) f x,s.fills[i]? =some f→xs[i]? =some x→zs0 o f x∧(f.left≠0→s.left=0∧i+1=s.fills.length))
 sub:∀y∈s.bk,∃x∈l,y.id=x.id∧y.seq=x.seq∧y.side=x.side∧y.price=x.price∧y.owner=x.owner
 len:s.bk.length≤l.length
theorem zb5 {id:Int}{l:List zap}{y:zap}(h:y∈zbf id l):y∈l:=(zfm id l).subset h
theorem zej {id left:Int}{l:List zap}{y:zap}(h:y∈zb2 id left l):∃x∈l,y.id=x.id∧y.seq=x.seq∧y.side=x.side∧y.price=x.price∧y.owner=x.owner:=by
 unfold zb2 at h
 split at h
 ·exact⟨y,h,rfl,rfl,rfl,rfl,rfl⟩
 ·rename_i x hx
  split at h
  ·rcases List.mem_or_eq_of_mem_set h with h|h
   ·exact⟨y,h,rfl,rfl,rfl,rfl,rfl⟩
   ·exact⟨x,List.mem_of_find?_eq_some hx,by rw[h],by rw[h],by rw[h],by rw[h],by rw[h]⟩
  ·exact⟨y,h,rfl,rfl,rfl,rfl,rfl⟩
theorem znM (id left:Int)(l:List zap):(zb2 id left l).length=l.length:=by
 unfold zb2
 split
 ·rfl
 ·split
  ·simp
  ·rfl
theorem zjG (o:zap)(a:List zap)(x:zap):sumL (zcS o (a++[x]))=sumL (zcS o a)+if x.owner=o.owner then 0 else x.left:=by
 unfold zcS
 rw[List.filter_append,zeS]
 by_cases h:x.owner=o.owner<;>simp[h,sumL]
theorem znN (o:zap)(l:List zap)(ho:0≤o.left):WayX o l [] ⟨o.left,l,[],[]⟩ where
 sum:=by simp[sumQ]
 left:=by simp[zcS,sumL];omega
 mks:=⟨[],List.Sublist.refl _,rfl,fun i f x h=>by simp at h⟩
 sub:=fun y hy=>⟨y,hy,rfl,rfl,rfl,rfl,rfl⟩
 len:=Nat.le_refl _
theorem zpr {o:zap}{l done:List zap}{s:XSt}{x:zap}(h:WayX o l done s)(hd:∀y∈done,1≤y.left)(hx:1≤x.left)(hl:0≤s.left)(ho:0≤o.left):WayX o l (done++[x]) (zdy o s x):=by
 have hpos:0≤sumL (zcS o done):=by
  have key:∀m:List zap,(∀y∈m,1≤y.left)→0≤sumL m:=by
   intro m
   induction m with
   |nil=>intro _;simp[sumL]
   |cons y m ih=>intro hm;have:=hm y mcs;have:=ih (fun z hz=>hm z (mcm _ hz));simp only[sumL,List.map_cons,List.sum_cons]at *;omega
  exact key _ (fun y hy=>hd y (List.mem_filter.1 hy).1)
 have hs:=h.sum
 have hle:=h.left
 obtain⟨xs,hx1,hx2,hx3⟩:=h.mks
 have hsum:=zjG o done x
 unfold zdy
 split
 ·rename_i h0
  refine⟨hs,?_,⟨xs,hx1.trans (List.sublist_append_left _ _),hx2,hx3⟩,h.sub,h.len⟩
  rw[hsum];split<;>omega
 ·rename_i h0
  split
  ·rename_i hown
   refine⟨hs,?_,⟨xs,hx1.trans (List.sublist_append_left _ _),hx2,?_⟩,fun y hy=>h.sub y (zb5 hy),Nat.le_trans (zfm _ _).length_le h.len⟩
   ·rw[hsum,if_pos hown];dsimp only;omega
   ·exact hx3
  ·rename_i hown
   refine⟨?_,?_,⟨xs++[x],hx1.append (List.Sublist.refl _),by simp[hx2],?_⟩,?_,?_⟩
   ·rw[zls];dsimp only;simp only[sumQ,List.map_cons,List.map_nil,List.sum_cons,List.sum_nil]at hs ⊢;omega
   ·rw[hsum,if_neg hown];dsimp only;omega
   ·intro i f y hf hy
    dsimp only at hf ⊢
    rcases Nat.lt_trichotomy i s.fills.length with hi|hi|hi
    ·rw[List.getElem?_append_left hi]at hf
     rw[List.getElem?_append_left (by omega)]at hy
     obtain⟨k1,k2⟩:=hx3 i f y hf hy
     exact⟨k1,fun hne=>absurd (k2 hne).1 h0⟩
    ·subst hi
     rw[List.getElem?_append_right (Nat.le_refl _),Nat.sub_self]at hf
     rw[←hx2,List.getElem?_append_right (Nat.le_refl _),Nat.sub_self]at hy
     simp only[List.getElem?_cons_zero,Option.some.injEq]at hf hy
     subst hf hy
     refine⟨⟨rfl,rfl,rfl,rfl,rfl,rfl,by dsimp only;omega,hown⟩,fun hne=> ?_⟩
     dsimp only at hne ⊢
     refine⟨by omega,by simp⟩
    ·rw[List.getElem?_eq_none (by simp;omega)]at hf;cases hf
   ·dsimp only
    intro y hy
    split at hy
    ·exact h.sub y (zb5 hy)
    ·obtain⟨z,hz,e1,e2,e3,e4,e5⟩:=zej hy
     obtain⟨x',hx',k1,k2,k3,k4,k5⟩:=h.sub z hz
     exact⟨x',hx',by rw[e1,k1],by rw[e2,k2],by rw[e3,k3],by rw[e4,k4],by rw[e5,k5]⟩
   ·dsimp only
    split
    ·exact Nat.le_trans (zfm _ _).length_le h.len
    ·rw[znM];exact h.len
theorem zqQ {o:zap}{l ms:List zap}(hm:∀y∈ms,1≤y.left)(ho:0≤o.left):WayX o l ms (runX o l ms):=by
 have key:∀k,k≤ms.length→WayX o l (ms.take k) (runX o l (ms.take k)):=by
  intro k
  induction k with
  |zero=>intro _;exact znN o l ho
  |succ k ih=>
   intro hk
   obtain⟨x,hx⟩:∃x,ms[k]? =some x:=⟨ms[k]'(by omega),gge (by omega)⟩
   have h1:=ih (by omega)
   have h2:=(zdK (o:=o) (l:=l) hm ho k (by omega)).1
   rw[zfr hx,List.take_add_one,hx]
   exact zpr h1 (fun y hy=>hm y (List.mem_of_mem_take hy)) (hm x (mog hx)) h2 ho
 have:=key ms.length (Nat.le_refl _)
 rw[List.take_length]at this
 exact this
theorem zgV {how:Int}{o:zap}{l:List zap}(hB:za6 l)(h0:zbC how o l=0):WayX o l (zaV how o l) (runX o l (zaV how o l))∧(doV how o l).fills=(runX o l (zaV how o l)).fills∧(doV how o l).left=(runX o l (zaV how o l)).left∧(doV how o l).err=0:=by
 have hol:=zdL (zdM h0)
 refine⟨zqQ (fun y hy=>(hB.left y (zcG hy).1).1) (by omega),?_⟩
 unfold doV
 rw[if_pos h0]
 exact⟨rfl,rfl,rfl⟩
theorem zfs {how:Int}{o:zap}{l:List zap}(hB:za6 l):(doV how o l).fills.length≤64∧(doV how o l).gones.length≤64:=by
 unfold doV
 split
 ·rename_i h0
  have hol:=zdL (zdM h0)
  have hml:=zgT how o l
  have hbl:=hB.len
  have:=zdK (o:=o) (l:=l) (ms:=zaV how o l) (fun x hx=>(hB.left x (zcG hx).1).1) (by omega) (zaV how o l).length (Nat.le_refl _)
  rw[List.take_length]at this
  dsimp only
  omega
 ·simp
theorem zgW {how:Int}{o:zap}{l:List zap}(h0:zbC how o l≠0):doV how o l=⟨[],[],0,zbC how o l,l⟩:=by unfold doV;rw[if_neg h0]
theorem zps {l:List zap}(hu:l.Pairwise fun a b=>a.id≠b.id){x:zap}(hx:x∈l):getO x.id l=some x:=by
 rcases zc3 (p:=hasO x.id) l with ⟨hi,hf⟩|⟨i,y,hi,hy,hp,hf⟩
 ·have:=zbV.1 (show zaT (hasO x.id) l<0 by omega) x hx
  simp[hasO]at this
 ·have hyi:y.id=x.id:=by simpa [hasO]using hp
  have hyx:y=x:=by
   obtain⟨j,hj⟩:=List.getElem?_of_mem hx
   obtain⟨hil,hie⟩:=gsi.1 hy
   obtain⟨hjl,hje⟩:=gsi.1 hj
   rcases Nat.lt_trichotomy i j with h|h|h
   ·have:=List.pairwise_iff_getElem.1 hu i j hil hjl h
    rw[hie,hje]at this;exact absurd hyi this
   ·subst h;rw[hie]at hje;exact hje
   ·have:=List.pairwise_iff_getElem.1 hu j i hjl hil h
    rw[hie,hje]at this;exact absurd hyi.symm this
  rw[←hyx];exact(show getO y.id l=some y by rw[hyi];exact hf)
end Go.Proofs.YteocfhdocpeokaaGreat
namespace Go.Proofs.YteocfhdocpeokaaGreat
open Go Go.Sl
attribute [local irreducible] AW ES EP Ld RetQ
set_option maxRecDepth 100000
def idC (q:zat):List Value:=[.int .i64 q.id]
theorem zqR (q:zat):∀v∈idC q,v.oneCell'=true:=List.all_eq_true.1 (rfl:(idC q).all Value.oneCell'=true)
theorem znO (W:World)(F:List zao)(p:Nat)(A:Option Addr)(c:Nat)(l:List zat)(ask:Int)(hb:l.length≤1000000):
 zax Tryz.prog W 165 [.pointer (some ⟨p,0,none⟩),.int .i64 ask] (zbk p A c l F)
  (fun v h'=>∃A' c',v=.slice A' (l.filter (zdq ask)).length c'∧h'=.own A' (l.filter (zdq ask)).length c' 2 1 ((l.filter (zdq ask)).flatMap idC)::zbk p A c (l.filter fun x=> !zdq ask x) F∧OwnF A' (l.filter (zdq ask)).length c' 1 ((l.filter (zdq ask)).flatMap idC)):=by
 refine zax.dropF ?_
 refine zaf Tryz.func165 rfl rfl Tryz.results165 Tryz.ntmps165 rfl rfl ?_
 refine zbi (h:=zbk p A c l F) mem1 (fun hl hnc hcc hsome hnone hone=> ?_)
 have hall:∀g1,zax Tryz.prog W 128 [.pointer (some ⟨p,0,none⟩),.func (.func 194) #[] #[.pointer (some ⟨g1,0,none⟩)]] (.blk g1 2 [.int .i64 ask]::zbk p A c l F) _:=fun g1=>
  zkx W _ p A c l mem1 (zaz.own mem2 hl hone) hb _ [_] (zdq ask) (fun x _=>(zmb W x g1 ask).mono (by intro c hc;simp only[List.mem_cons,List.not_mem_nil,or_false]at hc;rcases hc with rfl;simp))
 have hfl:=List.length_filter_le (zdq ask) l
 generalize hfe:l.filter (zdq ask)=fl at hall hfl ⊢
 repeat' (first|apply zah|apply zaa|apply zaj|apply zag|apply zac hT;iterate 4 exact rfl|apply zaA;(iterate 5 exact rfl);intro g3|apply zau (hs:=(hall _));(iterate 7 exact rfl);rintro _ _ ⟨AO,cO,rfl,rfl,hf⟩)
 refine zbI (fun w hw=>⟨_,hw.own_nil 2 1,?_⟩)
 refine zbT (α:=Nat×Option Addr×Nat) (E:=fun x=>[(0,.pointer (some ⟨p,0,none⟩)),(3,.pointer (some ⟨g3,0,none⟩)),(5,.slice x.2.1 x.1 x.2.2),(10,.slice AO fl.length cO),(11,.int .i64 fl.length),(12,.int .i64 x.1)])
  (H:=fun x=>.own x.2.1 x.1 x.2.2 2 1 ((fl.take x.1).flatMap idC)::.own AO fl.length cO 174 6 (fl.flatMap zat.enc)::.blk g3 2 [.int .i64 ask]::zbk p A c l F) (μ:=fun x=>fl.length - x.1)
  (S:=fun x=>x.1≤fl.length) (0,none,0) (J:=[]) (Nat.zero_le _) ⟨rfl,rfl,rfl,rfl,rfl,rfl,trivial⟩ (plr _) ?_
 rintro⟨k,A5,c5⟩ hk
 dsimp only at hk ⊢
 by_cases hlt:k<fl.length
 ·obtain⟨x,hx⟩:∃x,fl[k]? =some x:=⟨fl[k]'(by omega),gge (by omega)⟩
  have hx2:fl[(k:Int).toNat]? =some x:=by simpa using hx
  have hA:=hf.some_ (by omega)
  have hd1:decide ((k:Int)<(fl.length:Int))=true:=by simp;omega
  repeat' (first|apply zah|apply zaa|apply zam|apply zaj|apply zag|apply zac hT;iterate 4 exact rfl|apply zaM hT;(iterate 4 exact rfl);(iterate 2 omega)|apply zaJ hT;(iterate 8 exact rfl);(iterate 2 omega);exact hA|apply zad;(iterate 5 exact rfl);exact zaO hT rfl rfl (hf.reads mem1) zat.enc_len rfl hx2 rfl|apply zay hT;(iterate 5 exact rfl);intro g7|apply zar hT;(iterate 6 exact rfl);exact sel0;(iterate 3 exact rfl);exact nle rfl|apply zaB hT;(iterate 12 exact rfl);intro g|(apply zbb hT;(iterate 10 exact rfl);(first|exact selS sel1);exact zaz.own mem0 rfl (zqR x);omega;(show(_:Nat)*8≤_;omega);intro A' c')|(apply zad;(iterate 5 exact rfl);first|exact zaq hT rfl rfl mem0 rfl rfl)|(apply zal;exact rfl;all_goals(intro hb;(try simp only[hb]);(first|replace hb:=odt hb|replace hb:=odf hb);(try omega))))
  refine zaD (k+1,A',c') (by dsimp only;omega) (by dsimp only;omega) ⟨rfl,rfl,rfl,rfl,rfl,rfl,trivial⟩ ?_
  dsimp only
  rw[List.take_add_one,hx,List.flatMap_append]
  apply zaQ;(first|exact sel0)
  apply zaQ;(first|exact selS sel1)
  apply zaQ;(first|exact selS sel1)
  apply zaQ;(first|exact selS sel1)
  apply zaQ;(first|exact selS sel1)
  exact dX
 ·obtain rfl:k=fl.length:=by omega
  have hd1:decide ((fl.length:Int)<(fl.length:Int))=false:=by simp
  rw[List.take_length]
  have hdel:zax Tryz.prog W 195 [.slice A l.length c,.func (.func 196) #[] #[.pointer (some ⟨g3,0,none⟩)]] (.own A5 fl.length c5 2 1 (fl.flatMap idC)::.own AO fl.length cO 174 6 (fl.flatMap zat.enc)::.blk g3 2 [.int .i64 ask]::zbk p A c l F) _:=
   (zgQ W (.own A5 fl.length c5 2 1 (fl.flatMap idC)::.own AO fl.length cO 174 6 (fl.flatMap zat.enc)::.blk g3 2 [.int .i64 ask]::.blk p 142 [.slice A l.length c]::F) A c l _ [_] (zdq ask)
     (fun x _=>(zmc W x g3 ask).mono (by intro c hc;simp only[List.mem_cons,List.not_mem_nil,or_false]at hc;rcases hc with rfl;simp)) hb).perm (selS (selS (selS (selS sel0))))
  repeat' (first|apply zah|apply zaa|apply zak|apply zaN|apply zag|apply zac hT;iterate 4 exact rfl|apply zau (hs:=hdel);(iterate 7 exact rfl);rintro _ _ ⟨rfl,rfl⟩|(apply zar hT;(iterate 6 exact rfl);(first|exact selS (selS (selS sel1)));(iterate 3 exact rfl);exact nle rfl)|(apply zad;(iterate 5 exact rfl);first|exact zaq hT rfl rfl mem3 rfl rfl)|apply zas;iterate 2 exact rfl|(apply zal;exact rfl;all_goals(intro hb;(try simp only[hb]);(first|replace hb:=odt hb|replace hb:=odf hb);(try omega))))
  apply ret1;exact rfl
  refine⟨.own A5 fl.length c5 2 1 (fl.flatMap idC)::zbk p A c (l.filter fun x=> !zdq ask x) F,?_,fun w hw=>⟨A5,c5,rfl,rfl,hw.ownF mem0⟩⟩
  apply zaQ;(first|exact selS sel1)
  apply zaQ;(first|exact sel0)
  apply zaQ;(first|exact sel0)
  exact dX
/-! ### the table's own law: of one ask and one dealer one is live at most -/
def oneQ (l:List zat):Prop:=l.Pairwise fun a b=>a.live=true→b.live=true→¬(a.ask=b.ask∧a.dealer=b.dealer)
structure TabQ (l:List zat):Prop where
 up:upQ l
 one:oneQ l
theorem zd3 (q x:zat):(offQ q x).id=x.id:=by unfold offQ;split<;>rfl
theorem ziP (q x:zat):(offQ q x).ask=x.ask:=by unfold offQ;split<;>rfl
theorem zeX (q x:zat):(offQ q x).dealer=x.dealer:=by unfold offQ;split<;>rfl
theorem zgX {q x:zat}(h:(offQ q x).live=true):x.live=true∧¬(x.ask=q.ask∧x.dealer=q.dealer):=by
 unfold offQ at h
 split at h
 ·cases h
 ·rename_i hm
  refine⟨h,fun e=>hm ?_⟩
  simp[metQ,e.1,e.2,h]
theorem zgY {id:Int}{l:List zat}(hup:upQ l)(h:bsB (cQ id) l=false):∀x∈l,x.id≠id:=by
 intro x hx he
 obtain⟨i,hi⟩:=List.getElem?_of_mem hx
 have hb:bsN (cQ id) l=i:=zhP (by have:=(gsi.1 hi).1;omega) (fun k y hk hy=>by
  rw[zjw]
  obtain⟨h1,rfl⟩:=gsi.1 hi
  obtain⟨h2,rfl⟩:=gsi.1 hy
  have:=List.pairwise_iff_getElem.1 hup k i h2 h1 hk
  omega) (fun y hy=>by rw[hi]at hy;cases hy;rw[zjw];omega)
 unfold bsB at h
 rw[hb,hi]at h
 simp[cQ,cmpI,he]at h
theorem zpt {q:zat}{l:List zat}(h:TabQ l):TabQ (putQ q l):=by
 unfold putQ
 split
 ·exact h
 ·rename_i hb
  have hbad:badQ q l=false:=by simpa using hb
  simp only[badQ,Bool.or_eq_false_iff]at hbad
  have hB:=hbad.1.1.1.1.1
  have hne:=zgY h.up hB
  have hup2:upQ (l.map (offQ q)):=by
   unfold upQ;rw[List.pairwise_map]
   exact h.up.imp (fun{a b} hab=>by rw[zd3,zd3];exact hab)
  have hone2:oneQ (l.map (offQ q)):=by
   unfold oneQ;rw[List.pairwise_map]
   exact h.one.imp (fun{a b} hab ha hb=>by rw[ziP,ziP,zeX,zeX];exact hab (zgX ha).1 (zgX hb).1)
  have hbs:bsN (cQ q.id) l=((l.map (offQ q)).takeWhile fun x=>decide (x.id<q.id)).length:=by
   unfold bsN
   rw[List.takeWhile_map,llm]
   congr 2
   funext x
   simp only[Function.comp,zd3]
   exact decide_eq_decide.2 zjw
  refine⟨zmX (f:=zat.id) hup2 (fun x hx=> ?_) hbs,?_⟩
  ·obtain⟨y,hy,rfl⟩:=lmm.1 hx
   rw[zd3];exact hne y hy
  ·refine((zgi (l.map (offQ q)) q _).pairwise_iff (fun{a b} hab ha hb hk=>hab hb ha ⟨hk.1.symm,hk.2.symm⟩)).2 ?_
   rw[List.pairwise_cons]
   refine⟨fun x hx _ hxl hk=> ?_,hone2⟩
   obtain⟨y,hy,rfl⟩:=lmm.1 hx
   rw[ziP,zeX]at hk
   exact(zgX hxl).2 ⟨hk.1.symm,hk.2.symm⟩
theorem zpu {q:zat}{l:List zat}:(putQ q l).length≤l.length+1:=by
 unfold putQ
 split
 ·omega
 ·simp;omega
structure zpv where
 kind:Int
 ask:AskR
def zpv.enc (a:zpv):List Value:=.int .i64 a.kind::a.ask.enc
theorem zpv.enc_len (a:zpv):a.enc.length=11:=rfl
theorem zrz {l:List AskR}(hup:upA l){i:Nat}{x:AskR}(hi:l[i]? =some x):bsN (cA x.id) l=i∧bsB (cA x.id) l=true:=by
 have hb:bsN (cA x.id) l=i:=zhP (by have:=(gsi.1 hi).1;omega) (fun k y hk hy=>by
  rw[zlp]
  obtain⟨h1,rfl⟩:=gsi.1 hi
  obtain⟨h2,rfl⟩:=gsi.1 hy
  exact List.pairwise_iff_getElem.1 hup k i h2 h1 hk) (fun y hy=>by rw[hi]at hy;cases hy;rw[zlp];omega)
 refine⟨hb,?_⟩
 unfold bsB
 rw[hb,hi]
 simp[cA,cmpI]
theorem zkG {id:Int}{l:List AskR}{x y:AskR}(hup:upA l)(hx:l[bsN (cA id) l]? =some x)(he:y.id=x.id):upA (setA id y l):=by
 unfold upA setA at*
 rw[←List.pairwise_map (f:=AskR.id) (R:=(·<·))]at hup ⊢
 obtain⟨hlt,hxe⟩:=gsi.1 hx
 have:(l.set (bsN (cA id) l) y).map AskR.id=l.map AskR.id:=by
  rw[List.map_set,he,←hxe]
  apply List.ext_getElem?
  intro i
  by_cases hi:bsN (cA id) l=i
  ·subst hi;rw[List.getElem?_set_self (by simpa using hlt)];simp[hlt]
  ·rw[List.getElem?_set_ne hi]
 rw[this];exact hup
theorem zqS {a:AskR}{l:List AskR}(h:upA l):upA (addA a l):=by
 unfold addA
 split
 ·rename_i h0
  have hB:bsB (cA a.id) l=false:=by
   cases hB:bsB (cA a.id) l
   ·rfl
   ·simp[addE,hB]at h0
  refine zmX (f:=AskR.id) h (fun x hx=> ?_) (by
   unfold bsN
   congr 2
   funext x
   exact decide_eq_decide.2 zlp)
  intro he
  obtain⟨i,hi⟩:=List.getElem?_of_mem hx
  have:=(zrz h hi).2
  rw[he,hB]at this;cases this
 ·exact h
theorem zpw {a:AskR}{l:List AskR}:(addA a l).length≤l.length+1:=by
 unfold addA;split
 ·simp;omega
 ·omega
theorem gotX {id:Int}{l:List AskR}{x:AskR}(h:getA id l=some x):l[bsN (cA id) l]? =some x:=by
 unfold getA at h;split at h
 ·exact h
 ·cases h
theorem zpx {id quote until_:Int}{l:List AskR}(h:upA l):upA (zdA id quote until_ l)∧(zdA id quote until_ l).length=l.length:=by
 unfold zdA
 split
 ·exact⟨h,rfl⟩
 ·rename_i x hx
  split
  ·exact⟨zkG h (gotX hx) rfl,by simp[setA]⟩
  ·exact⟨h,rfl⟩
theorem zlt {id:Int}{l:List AskR}(h:upA l):upA (zd2 id l)∧(zd2 id l).length=l.length:=by
 unfold zd2
 split
 ·exact⟨h,rfl⟩
 ·rename_i x hx
  split
  ·exact⟨zkG h (gotX hx) rfl,by simp[setA]⟩
  ·exact⟨h,rfl⟩
theorem zfW {id state:Int}{l:List AskR}(h:upA l):upA (endA id state l)∧(endA id state l).length=l.length:=by
 unfold endA
 split
 ·exact⟨h,rfl⟩
 ·rename_i x hx
  split
  ·exact⟨zkG h (gotX hx) (by unfold endX;split<;>rfl),by simp[setA]⟩
  ·exact⟨h,rfl⟩
end Go.Proofs.YteocfhdocpeokaaGreat
namespace Go.Proofs.YteocfhdocpeokaaGreat
open Go Go.Sl
def ltD (a b:Due):Prop:=a.tick<b.tick∨(a.tick=b.tick∧(a.kind<b.kind∨(a.kind=b.kind∧a.id<b.id)))
def keyD (a b:Due):Prop:=a.kind=b.kind∧a.id=b.id
theorem ziQ {a b:Due}:ordD a b<0↔ltD a b:=by
 unfold ordD ltD
 simp only[orI,cmpI]
 repeat' split
 all_goals omega
theorem zjH {a b c:Due}(h1:ltD a b)(h2:ltD b c):ltD a c:=by unfold ltD at *;omega
theorem znP {a b:Due}(h1:¬ltD a b)(h2:¬keyD a b):ltD b a:=by unfold ltD keyD at *;omega
structure RowD (l:List Due):Prop where
 up:l.Pairwise ltD
 once:l.Pairwise fun a b=>¬keyD a b
theorem zgo {kind id:Int}{d:Due}:hasD kind id d=true↔d.kind=kind∧d.id=id:=by simp[hasD]
theorem zgZ {α:Type}{p:α→Bool}{l:List α}:zaT p l<0↔∀x∈l,p x=false:=by
 constructor
 ·intro h x hx
  induction l with
  |nil=>cases hx
  |cons y l ih=>
   unfold zaT at h
   split at h
   ·omega
   ·rename_i hp
    have h1:zaT p l<0:=by
     simp only at h
     split at h
     ·assumption
     ·omega
    rcases List.mem_cons.1 hx with rfl|hx
    ·simpa using hp
    ·exact ih h1 hx
 ·intro h
  have:=zb6 (p:=p) (l:=l) (fun j y hj=>h y (mog hj))
  omega
theorem zg0 {α:Type}{p:α→Bool}:∀{l:List α} {i:Nat},zaT p l=(i:Int)→∃x,l[i]? =some x∧p x=true
 |[],i,h=>by simp[zaT]at h
 |y::l,i,h=>by
  unfold zaT at h
  split at h
  ·rename_i hp;obtain rfl:i=0:=by omega
   exact⟨y,rfl,hp⟩
  ·simp only at h
   split at h
   ·omega
   ·obtain⟨k,rfl⟩:∃k,i=k+1:=⟨i - 1,by omega⟩
    obtain⟨x,hx,hpx⟩:=zg0 (p:=p) (l:=l) (i:=k) (by omega)
    exact⟨x,by simpa using hx,hpx⟩
theorem RowD.mono {l:List Due}(h:RowD l){d:Due}:∀(i j:Nat) x y,i≤j→l[i]? =some x→l[j]? =some y→ordD y d<0→ordD x d<0:=by
 intro i j x y hij hx hy hd
 rw[ziQ]at*
 rcases Nat.lt_or_ge i j with hlt|hge
 ·obtain⟨hi,rfl⟩:=gsi.1 hx
  obtain⟨hj,rfl⟩:=gsi.1 hy
  exact zjH (List.pairwise_iff_getElem.1 h.up i j hi hj hlt) hd
 ·obtain rfl:i=j:=by omega
  rw[hx]at hy;cases hy;exact hd
theorem zjI (l:List Due)(d:Due):(insD l d).Perm (d::l):=by
 unfold insD
 rw[List.append_assoc,List.singleton_append]
 exact List.perm_middle.trans (by rw[List.take_append_drop])
theorem ziR {l:List Due}{d x:Due}:x∈insD l d↔x=d∨x∈l:=by rw[(zjI l d).mem_iff];simp
theorem zpy {l:List Due}{d:Due}(h:RowD l)(hn:∀x∈l,¬keyD x d):RowD (insD l d):=by
 constructor
 ·unfold insD
  have hl:∀x∈l.take (bsN (ordD · d) l),ltD x d:=fun x hx=>by
   have:=zcj (p:=fun x=>decide (ordD x d<0)) (l:=l) x hx
   exact ziQ.1 (by simpa using this)
  have hsplit:l.take (bsN (ordD · d) l)++l.drop (bsN (ordD · d) l)=l:=List.take_append_drop _ _
  have hp:=h.up
  rw[←hsplit,List.pairwise_append]at hp
  obtain⟨p1,p2,p3⟩:=hp
  have hr:∀y∈l.drop (bsN (ordD · d) l),ltD d y:=fun y hy=>by
   cases hm:l.drop (bsN (ordD · d) l)with
   |nil=>rw[hm]at hy;cases hy
   |cons z m=>
    have hz:=zcB (p:=fun x=>decide (ordD x d<0)) (l:=l) hm
    have hzl:z∈l:=List.mem_of_mem_drop (by rw[hm];simp)
    have hdz:ltD d z:=znP (fun e=>by have:=ziQ.2 e;simp at hz;omega) (fun e=>hn z hzl e)
    rw[hm]at hy p2
    rcases List.mem_cons.1 hy with rfl|hy
    ·exact hdz
    ·exact zjH hdz (List.rel_of_pairwise_cons p2 hy)
  rw[List.append_assoc,List.pairwise_append]
  refine⟨p1,?_,fun x hx y hy=> ?_⟩
  ·rw[List.singleton_append,List.pairwise_cons]
   exact⟨hr,p2⟩
  ·rw[List.singleton_append]at hy
   rcases List.mem_cons.1 hy with rfl|hy
   ·exact hl x hx
   ·exact p3 x hx y hy
 ·refine((zjI l d).pairwise_iff (fun{a b} hab hk=>hab ⟨hk.1.symm,hk.2.symm⟩)).2 ?_
  rw[List.pairwise_cons]
  exact⟨fun x hx hk=>hn x hx ⟨hk.1.symm,hk.2.symm⟩,h.once⟩
theorem zew {l:List Due}{d:Due}(h:RowD l):RowD (addD l d):=by
 unfold addD
 split
 ·rename_i hi
  rw[zgZ]at hi
  exact zpy h (fun x hx hk=>by have:=hi x hx;simp[hasD,hk.1,hk.2]at this)
 ·exact h
theorem zpz {l:List Due}{d:Due}:∃x∈addD l d,keyD x d:=by
 unfold addD
 split
 ·exact⟨d,ziR.2 (.inl rfl),rfl,rfl⟩
 ·rename_i hi
  rw[zgZ]at hi
  simp only[Classical.not_forall,Bool.not_eq_false]at hi
  obtain⟨x,hx,hp⟩:=hi
  exact⟨x,hx,zgo.1 hp⟩
theorem zdN {l:List Due}{d x:Due}(hx:x∈l):x∈addD l d:=by
 unfold addD
 split
 ·exact ziR.2 (.inr hx)
 ·exact hx
theorem zdO {l:List Due}{d x:Due}(hx:x∈addD l d):x=d∨x∈l:=by
 unfold addD at hx
 split at hx
 ·exact ziR.1 hx
 ·exact .inr hx
theorem zpA {l:List Due}{d:Due}:(addD l d).length≤l.length+1∧l.length≤(addD l d).length:=by
 unfold addD
 split
 ·rw[zlr];omega
 ·omega
theorem RowD.nil :RowD []:=⟨List.Pairwise.nil,List.Pairwise.nil⟩
theorem RowD.sub {l m:List Due}(h:RowD l)(hs:m.Sublist l):RowD m:=⟨h.up.sublist hs,h.once.sublist hs⟩
theorem zcm {l:List Due}{kind id:Int}:(zbg l kind id).Sublist l:=by
 unfold zbg
 split
 ·exact List.Sublist.refl _
 ·exact List.eraseIdx_sublist _ _
theorem zh0 {l:List Due}{kind id:Int}(h:RowD l):∀x∈zbg l kind id,¬(x.kind=kind∧x.id=id):=by
 unfold zbg
 split
 ·rename_i hi
  rw[zgZ]at hi
  intro x hx hk
  have:=hi x hx
  rw[zgo.2 hk]at this
  cases this
 ·rename_i hi
  obtain⟨k,hk⟩:∃k:Nat,zaT (hasD kind id) l=k:=⟨(zaT (hasD kind id) l).toNat,by omega⟩
  obtain⟨y,hy,hpy⟩:=zg0 hk
  rw[zgo]at hpy
  rw[hk,Int.toNat_natCast]
  intro x hx hkx
  obtain⟨i,hxi,hge⟩:∃i,l[i]? =some x∧i≠k:=by
   obtain⟨i,hi2⟩:=List.getElem?_of_mem hx
   rw[List.getElem?_eraseIdx]at hi2
   split at hi2
   ·exact⟨i,hi2,by omega⟩
   ·exact⟨i+1,hi2,by omega⟩
  obtain⟨hi1,rfl⟩:=gsi.1 hxi
  obtain⟨hk1,rfl⟩:=gsi.1 hy
  rcases Nat.lt_or_gt_of_ne hge with hlt|hlt
  ·exact List.pairwise_iff_getElem.1 h.once i k hi1 hk1 hlt ⟨hkx.1.trans hpy.1.symm,hkx.2.trans hpy.2.symm⟩
  ·exact List.pairwise_iff_getElem.1 h.once k i hk1 hi1 hlt ⟨hpy.1.trans hkx.1.symm,hpy.2.trans hkx.2.symm⟩
theorem zml {l:List Due}{tick:Int}{x:Due}(h:x∈l.take (zb4 l tick)):x.tick≤tick:=by
 have:=zcj (p:=fun d:Due=>decide (d.tick≤tick)) (l:=l) x h
 simpa using this
def I64 (n:Int):Prop:= -9223372036854775808≤n∧n≤9223372036854775807
def Due.ok (d:Due):Prop:=I64 d.tick∧I64 d.kind∧I64 d.id
/-! ### lists -/
theorem zbF {α:Type}{l:List α}{i:Nat}{x y:α}(h:y∈l.set i x):y=x∨y∈l:=(List.mem_or_eq_of_mem_set h).symm
theorem zbh {id:Int}{l:List AskR}{a:AskR}(h:getA id l=some a):a∈l∧a.id=id:=by
 unfold getA at h
 split at h
 ·rename_i hb
  obtain⟨x,hx,hi,_⟩:=zdI hb
  rw[hx]at h
  cases h
  exact⟨mog hx,hi⟩
 ·cases h
theorem zft {id:Int}{l:List zat}{q:zat}(h:getQ id l=some q):q∈l∧q.id=id:=by
 unfold getQ at h
 split at h
 ·rename_i hb
  obtain⟨x,hx,hi,_⟩:=zdk hb
  rw[hx]at h
  cases h
  exact⟨mog hx,hi⟩
 ·cases h
def zeY (x y:AskR):Prop:=y.id=x.id∧y.client=x.client∧y.bond=x.bond∧y.side=x.side∧y.qty=x.qty∧y.dealers=x.dealers∧y.ends=x.ends
theorem zg1 {id:Int}{l:List AskR}{x z y:AskR}(hx:getA id l=some x)(hs:zeY x z)(h:y∈setA id z l):∃u∈l,zeY u y:=by
 rcases zbF h with rfl|h
 ·exact⟨x,(zbh hx).1,hs⟩
 ·exact⟨y,h,rfl,rfl,rfl,rfl,rfl,rfl,rfl⟩
theorem zcn {l:List AskR}{y:AskR}(h:y∈l):∃u∈l,zeY u y:=⟨y,h,rfl,rfl,rfl,rfl,rfl,rfl,rfl⟩
theorem zh1 {id quote until_:Int}{l:List AskR}{y:AskR}(h:y∈zdA id quote until_ l):∃u∈l,zeY u y:=by
 unfold zdA at h
 split at h
 ·exact zcn h
 ·rename_i x hx
  split at h
  ·exact zg1 hx (by exact⟨rfl,rfl,rfl,rfl,rfl,rfl,rfl⟩) h
  ·exact zcn h
theorem zh2 {id:Int}{l:List AskR}{y:AskR}(h:y∈zd2 id l):∃u∈l,zeY u y:=by
 unfold zd2 at h
 split at h
 ·exact zcn h
 ·rename_i x hx
  split at h
  ·exact zg1 hx (by exact⟨rfl,rfl,rfl,rfl,rfl,rfl,rfl⟩) h
  ·exact zcn h
theorem zjJ (state:Int)(x:AskR):zeY x (endX state x):=by
 unfold endX
 split<;>exact⟨rfl,rfl,rfl,rfl,rfl,rfl,rfl⟩
theorem zdP {id state:Int}{l:List AskR}{y:AskR}(h:y∈endA id state l):∃u∈l,zeY u y:=by
 unfold endA at h
 split at h
 ·exact zcn h
 ·rename_i x hx
  split at h
  ·exact zg1 hx (zjJ _ _) h
  ·exact zcn h
def zeZ (x y:zat):Prop:=y.id=x.id∧y.ask=x.ask∧y.dealer=x.dealer∧y.price=x.price∧y.expires=x.expires
theorem zfX {l:List zat}{y:zat}(h:y∈l):∃u∈l,zeZ u y:=⟨y,h,rfl,rfl,rfl,rfl,rfl⟩
theorem zfY {id:Int}{l:List zat}{y:zat}(h:y∈zb3 id l):∃u∈l,zeZ u y:=by
 unfold zb3 at h
 split at h
 ·rename_i x hx
  rcases zbF h with rfl|h
  ·exact⟨x,(zft hx).1,rfl,rfl,rfl,rfl,rfl⟩
  ·exact zfX h
 ·exact zfX h
theorem zg2 (id:Int)(l:List zat):(zb3 id l).length=l.length:=by
 unfold zb3
 split
 ·simp
 ·rfl
theorem zlu {id:Int}{l:List zat}(h:upQ l):upQ (zb3 id l):=by
 unfold zb3
 split
 ·rename_i x hx
  unfold getQ at hx
  split at hx
  ·rename_i hb
   unfold upQ at h ⊢
   rw[List.pairwise_iff_getElem]at h ⊢
   intro i j hi hj hij
   simp only[List.length_set]at hi hj
   have:=h i j hi hj hij
   have hid:∀k (hk:k<l.length),((l.set (bsN (cQ id) l) {x with live:=false})[k]'(by simpa using hk)).id=l[k].id:=by
    intro k hk
    rw[List.getElem_set]
    split
    ·rename_i he
     subst he
     rw[gge hk]at hx
     cases hx
     rfl
    ·rfl
   rw[hid i hi,hid j hj]
   exact this
  ·cases hx
 ·exact h
theorem zh3 {id dealer:Int}{l:List zat}{y:zat}(h:y∈zd1 id dealer l):∃u∈l,zeZ u y:=by
 unfold zd1 at h
 split at h
 ·exact zfY h
 ·exact zfX h
theorem znQ (id dealer:Int)(l:List zat):(zd1 id dealer l).length=l.length:=by
 unfold zd1
 split
 ·exact zg2 _ _
 ·rfl
theorem zpB {id dealer:Int}{l:List zat}(h:upQ l):upQ (zd1 id dealer l):=by
 unfold zd1
 split
 ·exact zlu h
 ·exact h
theorem zjK {q:zat}{l:List zat}{y:zat}(h:y∈putQ q l):y=q∨∃u∈l,zeZ u y:=by
 unfold putQ at h
 split at h
 ·exact .inr (zfX h)
 ·have h2:y∈l.map (offQ q)∨y=q:=by
   rcases lma.1 h with h|h
   ·rcases lma.1 h with h|h
    ·exact .inl (List.mem_of_mem_take h)
    ·exact .inr (lms.1 h)
   ·exact .inl (List.mem_of_mem_drop h)
  rcases h2 with h2|h2
  ·obtain⟨u,hu,rfl⟩:=lmm.1 h2
   refine .inr ⟨u,hu,?_⟩
   unfold offQ zeZ
   split<;>exact⟨rfl,rfl,rfl,rfl,rfl⟩
  ·exact .inl h2
theorem zfu {a:AskR}{l:List AskR}{y:AskR}(h:y∈addA a l):y=a∨y∈l:=by
 unfold addA at h
 split at h
 ·rcases lma.1 h with h|h
  ·rcases lma.1 h with h|h
   ·exact .inr (List.mem_of_mem_take h)
   ·exact .inl (lms.1 h)
  ·exact .inr (List.mem_of_mem_drop h)
 ·exact .inr h
/-! ### books -/
theorem zpC {o y:zap}{l:List zap}(h:y∈addO o l):y=o∨y∈l:=by
 unfold addO at h
 split at h
 ·rcases lma.1 h with h|h
  ·exact .inr h
  ·exact .inl (lms.1 h)
 ·exact .inr h
theorem zkH {how:Int}{o y:zap}{l:List zap}(hB:za6 l)(h:y∈(doV how o l).bk):(∃x∈l,y.id=x.id∧y.seq=x.seq∧y.owner=x.owner)∨(y.id=o.id∧y.seq=o.seq∧y.owner=o.owner):=by
 by_cases h0:zbC how o l=0
 ·obtain⟨hw,_⟩:=zgV hB h0
  unfold doV at h
  rw[if_pos h0]at h
  dsimp only at h
  unfold zdz at h
  split at h
  ·rcases zpC h with rfl|h
   ·exact .inr ⟨rfl,rfl,rfl⟩
   ·obtain⟨x,hx,a,b,_,_,c⟩:=hw.sub y h
    exact .inl ⟨x,hx,a,b,c⟩
  ·obtain⟨x,hx,a,b,_,_,c⟩:=hw.sub y h
   exact .inl ⟨x,hx,a,b,c⟩
 ·rw[zgW h0]at h
  exact .inl ⟨y,h,rfl,rfl,rfl⟩
theorem zkI :∀{l:List zbM},(∀f∈l,1≤f.qty)→∀f∈l,f.qty≤sumQ l∧0≤sumQ l
 |[],_,f,hf=>by cases hf
 |x::l,h,f,hf=>by
  have e:sumQ (x::l)=x.qty+sumQ l:=by simp[sumQ]
  have h0:0≤sumQ l:=by
   cases l with
   |nil=>simp[sumQ]
   |cons y l=>exact(zkI (fun f hf=>h f (mcm _ hf)) y mcs).2
  have hx:=h x mcs
  rcases List.mem_cons.1 hf with rfl|hf
  ·omega
  ·have:=(zkI (fun f hf=>h f (mcm _ hf)) f hf).1
   omega
theorem zjL {how:Int}{o:zap}{l:List zap}(hB:za6 l):∀f∈(doV how o l).fills,1≤f.qty∧f.qty≤1000000:=by
 by_cases h0:zbC how o l=0
 ·obtain⟨hw,e1,e2,_⟩:=zgV hB h0
  have hol:=zdL (zdM h0)
  rw[e1]
  generalize runX o l (zaV how o l)=s at*
  obtain⟨xs,hsub,hlen,hf⟩:=hw.mks
  have hq:∀f∈s.fills,1≤f.qty:=by
   intro f hfm
   obtain⟨i,hi⟩:=List.getElem?_of_mem hfm
   have hil:=(gsi.1 hi).1
   exact(hf i f (xs[i]'(by omega)) hi (gge _)).1.qty
  have hl0:0≤s.left:=by
   rw[hw.left]
   have:min o.left (sumL (zcS o (zaV how o l)))≤o.left:=Int.min_le_left _ _
   omega
  intro f hfm
  have:=(zkI hq f hfm).1
  rw[hw.sum]at this
  exact⟨hq f hfm,by omega⟩
 ·rw[zgW h0]
  intro f hf;cases hf
def zhA (s:Dk)(a:AskR):Prop:=(1≤a.id∧a.id≤s.ask)∧(0≤a.bond∧a.bond<s.bonds.length)∧isB a.side=true∧(1≤a.qty∧a.qty≤1000000)∧(0≤a.client∧a.client<s.parties.length)∧(0≤a.dealers∧a.dealers≤18446744073709551615)∧(1≤a.ends∧a.ends≤s.now+1000)
def zc6 (s:Dk)(q:zat):Prop:=(1≤q.id∧q.id≤s.quote)∧(0≤q.dealer∧q.dealer<s.parties.length)∧(1≤q.price∧q.price≤1000000)∧(1≤q.expires∧q.expires≤s.now+1000)
structure DOK (N:Nat)(s:Dk):Prop where
 rules:isR s.bonds s.parties s.look s.beat=true
 nbk:s.books.length=s.bonds.length
 bks:∀l∈s.books,za6 l
 bid:∀l∈s.books,∀o∈l,o.id≤s.order∧o.seq≤s.seq
 order:0≤s.order∧s.order≤N
 seq:0≤s.seq∧s.seq≤N
 now:0≤s.now∧s.now≤N
 quote:0≤s.quote∧s.quote≤N
 ask:0≤s.ask∧s.ask≤N
 nus:s.used.length=s.parties.length
 us:∀u∈s.used,0≤u∧u≤9223372036854775807
 upq:upQ s.quotes
 nq:s.quotes.length≤N
 qs:∀q∈s.quotes,zc6 s q
 upa:upA s.asks
 na:s.asks.length≤N
 as_:∀a∈s.asks,zhA s a
 row:RowD s.due
 nd:s.due.length≤N
 ncash:s.cash.length=s.parties.length
 cash:∀n∈s.cash,inW n
 npos:s.pos.length=s.parties.length
 pos:∀r∈s.pos,r.length=s.bonds.length∧∀n∈r,inW n
 nt:s.trades.length≤64*N
 head:0≤s.head∧s.head≤18446744073709551615
theorem zhA.mono {s t:Dk}{a:AskR}(h:zhA s a)(h1:s.ask≤t.ask)(h2:t.bonds.length=s.bonds.length)(h3:t.parties.length=s.parties.length)(h4:s.now≤t.now):zhA t a:=by
 obtain⟨⟨a1,a2⟩,⟨b1,b2⟩,c,d,⟨e1,e2⟩,f,⟨g1,g2⟩⟩:=h
 exact⟨⟨a1,by omega⟩,⟨b1,by omega⟩,c,d,⟨e1,by omega⟩,f,⟨g1,by omega⟩⟩
theorem zhA.same {s:Dk}{x y:AskR}(h:zhA s x)(hs:zeY x y):zhA s y:=by
 obtain⟨a,b,c,d,e,f,g⟩:=hs
 unfold zhA at*
 rw[a,b,c,d,e,f,g];exact h
theorem zc6.mono {s t:Dk}{q:zat}(h:zc6 s q)(h1:s.quote≤t.quote)(h3:t.parties.length=s.parties.length)(h4:s.now≤t.now):zc6 t q:=by
 obtain⟨⟨a1,a2⟩,⟨b1,b2⟩,c,⟨d1,d2⟩⟩:=h
 exact⟨⟨a1,by omega⟩,⟨b1,by omega⟩,c,⟨d1,by omega⟩⟩
theorem zc6.same {s:Dk}{x y:zat}(h:zc6 s x)(hs:zeZ x y):zc6 s y:=by
 obtain⟨a,b,c,d,e⟩:=hs
 unfold zc6 at*
 rw[a,c,d,e];exact h
theorem DOK.up {N:Nat}{s:Dk}(h:DOK N s):DOK (N+1) s:=by
 obtain⟨h1,h2,h3,h4,h5,h6,h7,h8,h9,h10,h11,h12,h13,h14,h15,h16,h17,h18,h19,h20,h21,h22,h23,h24,h25⟩:=h
 exact⟨h1,h2,h3,h4,by omega,by omega,by omega,by omega,by omega,h10,h11,h12,by omega,h14,h15,by omega,h17,h18,by omega,h20,h21,h22,h23,by omega,h25⟩
theorem DOK.ge {N M:Nat}{s:Dk}(h:DOK N s)(hM:N≤M):DOK M s:=by
 obtain⟨h1,h2,h3,h4,h5,h6,h7,h8,h9,h10,h11,h12,h13,h14,h15,h16,h17,h18,h19,h20,h21,h22,h23,h24,h25⟩:=h
 exact⟨h1,h2,h3,h4,by omega,by omega,by omega,by omega,by omega,h10,h11,h12,by omega,h14,h15,by omega,h17,h18,by omega,h20,h21,h22,h23,by omega,h25⟩
/-! ### parts -/
theorem DOK.turn {N:Nat}{s:Dk}(h:DOK N s)(qs:List zat)(as':List AskR)(ds:List Due)(hq:upQ qs)(hq1:qs.length≤N)(hq2:∀y∈qs,∃u∈s.quotes,zeZ u y)
 (ha:upA as') (ha1:as'.length≤N) (ha2:∀y∈as',∃u∈s.asks,zeY u y) (hd:RowD ds) (hd1:ds.length≤N):DOK N {s with quotes:=qs,asks:=as',due:=ds}:=
 ⟨h.rules,h.nbk,h.bks,h.bid,h.order,h.seq,h.now,h.quote,h.ask,h.nus,h.us,hq,hq1,fun y hy=>by
   obtain⟨u,hu,hs⟩:=hq2 y hy
   exact((h.qs u hu).mono (t:={s with quotes:=qs,asks:=as',due:=ds}) (Int.le_refl _) rfl (Int.le_refl _)).same hs,ha,ha1,fun y hy=>by
   obtain⟨u,hu,hs⟩:=ha2 y hy
   exact((h.as_ u hu).mono (t:={s with quotes:=qs,asks:=as',due:=ds}) (Int.le_refl _) rfl rfl (Int.le_refl _)).same hs,hd,hd1,h.ncash,h.cash,h.npos,h.pos,h.nt,h.head⟩
theorem zbH {l:List Due}{kind id:Int}(h:RowD l):RowD (zbg l kind id):=h.sub zcm
theorem zcH (l:List Due)(kind id:Int):(zbg l kind id).length≤l.length:=zcm.length_le
theorem zdQ :∀(qs:List zat) {l:List Due},RowD l→RowD (qs.foldl (fun l q=>zbg l 3 q.id) l)
 |[],l,h=>h
 |q::qs,l,h=>by rw[List.foldl_cons];exact zdQ qs (zbH h)
theorem zg3 :∀(qs:List zat) (l:List Due),(qs.foldl (fun l q=>zbg l 3 q.id) l).length≤l.length
 |[],l=>Nat.le_refl _
 |q::qs,l=>by
  rw[List.foldl_cons]
  exact Nat.le_trans (zg3 qs _) (zcH _ _ _)
theorem DOK.clear {N:Nat}{s:Dk}(h:DOK N s)(id:Int):DOK N (zc8 s id):=
 h.turn _ s.asks _ (h.upq.filter _) (Nat.le_trans (List.length_filter_le _ _) h.nq) (fun y hy=>zfX (List.mem_filter.1 hy).1) h.upa h.na (fun y hy=>zcn hy)
  (zbH (zbH (zdQ _ h.row))) (Nat.le_trans (zcH _ _ _) (Nat.le_trans (zcH _ _ _) (Nat.le_trans (zg3 _ _) h.nd)))
theorem DOK.asks {N:Nat}{s:Dk}(h:DOK N s){as':List AskR}(ha:upA as'∧as'.length=s.asks.length)(ha2:∀y∈as',∃u∈s.asks,zeY u y):DOK N {s with asks:=as'}:=
 h.turn s.quotes as' s.due h.upq h.nq (fun y hy=>zfX hy) ha.1 (by rw[ha.2];exact h.na) ha2 h.row h.nd
theorem DOK.dies {N:Nat}{s:Dk}(h:DOK N s)(a:AskR):DOK N (zeF s a):=(h.asks (zfW h.upa) (fun y hy=>zdP hy)).clear a.id
theorem DOK.kill {N:Nat}{s:Dk}(h:DOK N s)(id:Int){ds:List Due}(hd:RowD ds)(hd1:ds.length≤N):DOK N {s with quotes:=zb3 id s.quotes,due:=ds}:=
 h.turn _ s.asks _ (zlu h.upq) (by rw[zg2];exact h.nq) (fun y hy=>zfY hy) h.upa h.na (fun y hy=>zcn hy) hd hd1
theorem DOK.lookEnds {N:Nat}{rf:Bool}{s:Dk}(h:DOK N s)(a:AskR):DOK N (zaU rf s a).1:=by
 have h1:DOK N {s with quotes:=zb3 a.hit s.quotes,due:=if rf then zbg (zbg s.due 3 a.hit) 2 a.id else s.due}:=by
  refine h.kill a.hit ?_ ?_
  ·split
   ·exact zbH (zbH h.row)
   ·exact h.row
  ·split
   ·exact Nat.le_trans (zcH _ _ _) (Nat.le_trans (zcH _ _ _) h.nd)
   ·exact h.nd
 unfold zaU
 dsimp only
 split
 ·exact h1.dies a
 ·exact h1.asks (zlt h1.upa) (fun y hy=>zh2 hy)
theorem DOK.dueOne {N:Nat}{rf:Bool}{s:Dk×List OutR}(h:DOK N s.1)(x:Due):DOK N (dueD rf s x).1:=by
 unfold dueD
 split
 ·exact h.kill x.id h.row h.nd
 ·split
  ·exact h
  ·split
   ·exact h.lookEnds _
   ·split
    ·exact h.dies _
    ·exact h
theorem DOK.dueAll {N:Nat}{rf:Bool}:∀(xs:List Due) {s:Dk×List OutR},DOK N s.1→DOK N (xs.foldl (dueD rf) s).1
 |[],s,h=>h
 |x::xs,s,h=>by rw[List.foldl_cons];exact DOK.dueAll xs (h.dueOne x)
theorem DOK.tick {N:Nat}{rf:Bool}{s:Dk}(h:DOK N s):DOK (N+1) (zc5 rf s).1:=by
 unfold zc5
 refine DOK.dueAll _ ?_
 have h':=h.up
 have hn:=h.now
 exact⟨h'.rules,h'.nbk,h'.bks,h'.bid,h'.order,h'.seq,⟨by show 0≤s.now+1;omega,by show s.now+1≤((N+1:Nat):Int);omega⟩,h'.quote,h'.ask,h'.nus,h'.us,h'.upq,h'.nq,
  fun q hq=>(h'.qs q hq).mono (Int.le_refl _) rfl (by show s.now≤s.now+1;omega),h'.upa,h'.na,fun a ha=>(h'.as_ a ha).mono (Int.le_refl _) rfl rfl (by show s.now≤s.now+1;omega),
  h'.row.sub (List.drop_sublist _ _),Nat.le_trans (List.drop_sublist _ _).length_le h'.nd,h'.ncash,h'.cash,h'.npos,h'.pos,h'.nt,h'.head⟩
theorem DOK.books {N:Nat}{s:Dk}(h:DOK N s){bs:List (List zap)}(h1:bs.length=s.books.length)(h2:∀l∈bs,za6 l)(h3:∀l∈bs,∀o∈l,o.id≤s.order∧o.seq≤s.seq):DOK N {s with books:=bs}:=
 ⟨h.rules,h1.trans h.nbk,h2,h3,h.order,h.seq,h.now,h.quote,h.ask,h.nus,h.us,h.upq,h.nq,h.qs,h.upa,h.na,h.as_,h.row,h.nd,h.ncash,h.cash,h.npos,h.pos,h.nt,h.head⟩
theorem zg4 :∀(os l:List zap),(∀y∈os.foldl (fun l o=>zbf o.id l) l,y∈l)∧(za6 l→za6 (os.foldl (fun l o=>zbf o.id l) l))
 |[],l=>⟨fun y h=>h,fun h=>h⟩
 |o::os,l=>by
  obtain⟨h1,h2⟩:=zg4 os (zbf o.id l)
  rw[List.foldl_cons]
  exact⟨fun y hy=>zb5 (h1 y hy),fun h=>h2 (h.drop _)⟩
theorem zdm {who:Int}{l:List zap}:(∀y∈zgg who l,y∈l)∧(za6 l→za6 (zgg who l)):=by
 unfold zgg
 obtain⟨a1,a2⟩:=zg4 (zea who 1 l) l
 obtain⟨b1,b2⟩:=zg4 (zea who 2 l) ((zea who 1 l).foldl (fun l o=>zbf o.id l) l)
 exact⟨fun y hy=>a1 y (b1 y hy),fun h=>b2 (a2 h)⟩
theorem DOK.goneOne {N:Nat}{rf:Bool}{s:Dk}(h:DOK N s)(q:zat):DOK N (zct rf s q):=by
 unfold zct
 split
 ·exact h
 ·exact h.kill q.id (zbH h.row) (Nat.le_trans (zcH _ _ _) h.nd)
theorem DOK.goneAll {N:Nat}{rf:Bool}:∀(qs:List zat) {s:Dk},DOK N s→DOK N (qs.foldl (zct rf) s)
 |[],s,h=>h
 |q::qs,s,h=>by rw[List.foldl_cons];exact DOK.goneAll qs (h.goneOne q)
theorem DOK.gone {N:Nat}{rf:Bool}{s:Dk}(h:DOK N s)(who:Int):DOK N (zeb rf s who).1:=by
 unfold zeb
 refine DOK.goneAll _ (h.books (by simp) (fun l hl=> ?_) (fun l hl o ho=> ?_))
 ·obtain⟨m,hm,rfl⟩:=lmm.1 hl
  exact zdm.2 (h.bks m hm)
 ·obtain⟨m,hm,rfl⟩:=lmm.1 hl
  exact h.bid m hm o (zdm.1 o ho)
/-! ### trades -/
theorem zpD (p:Ps)(t:zaL):(putP p t).cash.length=p.cash.length∧(putP p t).pos.length=p.pos.length:=by
 unfold putP setRow
 split<;>simp
theorem znR {α:Type}{l:List α}{i:Int}{x:α}(h:at0 l i=some x):x∈l:=by
 unfold at0 at h
 split at h
 ·cases h
 ·exact mog h
theorem zjM {l:List (List Int)}{who bond n:Int}{b:Nat}(h:∀r∈l,r.length=b∧∀n∈r,inW n)(hw:0≤who∧who<l.length)(hn:inW n):∀r∈setRow l who bond n,r.length=b∧∀n∈r,inW n:=by
 intro r hr
 unfold setRow at hr
 rcases zbF hr with rfl|hr
 ·have hx:at0 l who=some (l[who.toNat]'(by omega)):=by
   unfold at0
   rw[if_neg (by omega)]
   exact gge _
  obtain⟨h1,h2⟩:=h _ (znR hx)
  rw[hx]
  refine⟨by simpa using h1,fun m hm=> ?_⟩
  rcases zbF hm with rfl|hm
  ·exact hn
  ·exact h2 m hm
 ·exact h r hr
theorem zqT {p:Ps}{t:zaL}{b:Nat}(hl:p.pos.length=p.cash.length)(hc:∀n∈p.cash,inW n)(hp:∀r∈p.pos,r.length=b∧∀n∈r,inW n):(∀n∈(putP p t).cash,inW n)∧∀r∈(putP p t).pos,r.length=b∧∀n∈r,inW n:=by
 unfold putP
 split
 ·rename_i h0
  unfold putE at h0
  split at h0
  ·cases h0
  ·rename_i h1
   split at h0
   ·rename_i h2
    simp only[Bool.and_eq_true]at h2
    obtain⟨⟨⟨⟨a1,a2⟩,a3⟩,a4⟩,a5⟩:=h2
    have hb:∀who,zdo p who t.bond=true→0≤who∧who<p.cash.length:=fun who h=>by
     unfold zdo at h
     simp only[Bool.and_eq_true,decide_eq_true_eq]at h
     exact⟨h.1,h.2.1⟩
    have hb1:=hb t.buyer (by cases h:zdo p t.buyer t.bond with|true=>rfl|false=>exact absurd (.inl h) h1)
    have hb2:=hb t.seller (by cases h:zdo p t.seller t.bond with|true=>rfl|false=>exact absurd (.inr (.inl h)) h1)
    refine⟨fun n hn=> ?_,?_⟩
    ·rcases zbF hn with rfl|hn
     ·exact zeP a5
     ·rcases zbF hn with rfl|hn
      ·exact zeP a4
      ·exact hc n hn
    ·refine zjM (zjM hp (by omega) (zeP a2)) ?_ (zeP a3)
     unfold setRow
     simp only[List.length_set]
     omega
   ·cases h0
 ·exact⟨hc,hp⟩
theorem ziS {a b:Nat}(ha:a<2^64)(hb:b<2^64):a ^^^ b<2^64:=Nat.xor_lt_two_pow ha hb
theorem zkJ :∀(bs:List Nat) {x:Nat},x<2^64→bs.foldl mixN x<2^64
 |[],x,h=>h
 |b::bs,x,h=>by
  rw[List.foldl_cons]
  exact zkJ bs (Nat.mod_lt _ (by decide))
theorem zg5 {last:Nat}{bs:List Nat}(h:last<2^64):zcf last bs<2^64:=by
 unfold zcf
 have h1:bs.foldl mixN (last ^^^ 1469598103934665603)<2^64:=zkJ bs (ziS h (by decide))
 exact ziS h1 (Nat.lt_of_le_of_lt (Nat.div_le_self _ _) h1)
structure DOKt (N M:Nat)(s:Dk):Prop where
 ok:DOK N {s with trades:=[]}
 nt:s.trades.length≤M
theorem DOK.noT {N:Nat}{s:Dk}(h:DOK N s):DOKt N (64*N) s:=
 ⟨⟨h.rules,h.nbk,h.bks,h.bid,h.order,h.seq,h.now,h.quote,h.ask,h.nus,h.us,h.upq,h.nq,h.qs,h.upa,h.na,h.as_,h.row,h.nd,h.ncash,h.cash,h.npos,h.pos,Nat.zero_le _,h.head⟩,h.nt⟩
theorem DOKt.all {N M:Nat}{s:Dk}(h:DOKt N M s)(hM:M≤64*N):DOK N s:=
 let h':=h.ok
 ⟨h'.rules,h'.nbk,h'.bks,h'.bid,h'.order,h'.seq,h'.now,h'.quote,h'.ask,h'.nus,h'.us,h'.upq,h'.nq,h'.qs,h'.upa,h'.na,h'.as_,h'.row,h'.nd,h'.ncash,h'.cash,h'.npos,h'.pos,Nat.le_trans h.nt hM,h'.head⟩
theorem DOKt.trade {N M:Nat}{s:Dk}(h:DOKt N M s)(t:zaL):DOKt N (M+1) (zcY s t):=by
 have h':=h.ok
 have hl:=zpD ⟨s.cash,s.pos⟩ t
 have ho:=zqT (p:=⟨s.cash,s.pos⟩) (t:=t) (b:=s.bonds.length) (h'.npos.trans h'.ncash.symm) h'.cash h'.pos
 have hh:s.head.toNat<2^64:=by have h9:0≤s.head∧s.head≤18446744073709551615:=h'.head;show s.head.toNat<18446744073709551616;omega
 have hc:=zg5 (bs:=zbR t) hh
 refine⟨⟨h'.rules,h'.nbk,h'.bks,h'.bid,h'.order,h'.seq,h'.now,h'.quote,h'.ask,h'.nus,h'.us,h'.upq,h'.nq,h'.qs,h'.upa,h'.na,h'.as_,h'.row,h'.nd,hl.1.trans h'.ncash,ho.1,hl.2.trans h'.npos,ho.2,Nat.zero_le _,?_⟩,?_⟩
 ·show 0≤((zcf s.head.toNat (zbR t):Nat):Int)∧((zcf s.head.toNat (zbR t):Nat):Int)≤18446744073709551615
  omega
 ·show(s.trades++[t]).length≤M+1
  have:=h.nt
  simp;omega
theorem DOKt.fills {N:Nat}{who:Int}{o:zap}{n:Nat}:∀(fs:List zbM) {M:Nat} {s:FSt},DOKt N M s.d→DOKt N (M+fs.length) (fs.foldl (zbN who o n) s).d
 |[],M,s,h=>h
 |f::fs,M,s,h=>by
  rw[List.foldl_cons]
  have:=DOKt.fills (who:=who) (o:=o) (n:=n) fs (s:=zbN who o n s f) (h.trade (zbr s.d o.side who f.mparty n f.price f.qty 0))
  rw[List.length_cons,show M+(fs.length+1)=M+1+fs.length by omega]
  exact this
theorem zqU {q:zat}{l:List zat}(h:upQ l):upQ (putQ q l):=by
 unfold putQ
 split
 ·exact h
 ·rename_i hb
  have hbad:badQ q l=false:=by simpa using hb
  simp only[badQ,Bool.or_eq_false_iff]at hbad
  have hB:=hbad.1.1.1.1.1
  have hne:=zgY h hB
  have hup2:upQ (l.map (offQ q)):=by
   unfold upQ;rw[List.pairwise_map]
   exact h.imp (fun{a b} hab=>by rw[zd3,zd3];exact hab)
  have hbs:bsN (cQ q.id) l=((l.map (offQ q)).takeWhile fun x=>decide (x.id<q.id)).length:=by
   unfold bsN
   rw[List.takeWhile_map,llm]
   congr 2
   funext x
   simp only[Function.comp,zd3]
   exact decide_eq_decide.2 zjw
  refine zmX (f:=zat.id) hup2 (fun x hx=> ?_) hbs
  obtain⟨y,hy,rfl⟩:=lmm.1 hx
  rw[zd3];exact hne y hy
theorem zbO {bs:List zaP}{ps:List zaG}{look beat:Int}(h:isR bs ps look beat=true):(1≤bs.length∧bs.length≤4)∧(1≤ps.length∧ps.length≤8)∧(1≤look∧look≤1000)∧(∀b∈bs,zcU b=true)∧(∀p∈ps,zeh p (zdh ps ps.length)=true):=by
 unfold isR at h
 simp only[Bool.and_eq_true,List.all_eq_true]at h
 obtain⟨⟨h1,h2⟩,⟨⟨h3,h4⟩,h5⟩,h6⟩:=h
 have h1:=zck h1
 have h2:=zck h2
 have h5:=zck h5
 exact⟨by omega,by omega,h5,h3,h4⟩
theorem zdn {s:Dk}{n:Int}(hl:s.books.length=s.bonds.length)(h:zcE s n=true):(0≤n∧n<s.books.length)∧s.bonds[n.toNat]? =some (zbv s n)∧zbv s n∈s.bonds:=by
 unfold zcE at h
 simp only[Bool.and_eq_true,decide_eq_true_eq]at h
 have hlt:n.toNat<s.bonds.length:=by omega
 have e:s.bonds[n.toNat]? =some (zbv s n):=by
  unfold zbv at0
  rw[if_neg (by omega),gge hlt];rfl
 exact⟨h,e,mog e⟩
theorem zrA {b:zaP}{q:Int}(hb:zcU b=true)(h:qtyE b q=0):1≤q∧q≤1000000:=by
 have hp:=zet hb
 have:=hp.min
 have:=hp.max
 unfold qtyE at h
 split at h
 ·omega
 ·rename_i h1
  have h2:=zck (show inB q b.min b.max=true by simpa using h1)
  omega
theorem zpE {b:zaP}{p:Int}(hb:zcU b=true)(h:zei b p=0):1≤p∧p≤1000000:=by
 have hp:=zet hb
 have:=hp.low
 have:=hp.high
 unfold zei at h
 split at h
 ·omega
 ·rename_i h1
  have h2:=zck (show inB p b.low b.high=true by simpa using h1)
  omega
theorem zh4 {who:Int}{o:zap}{n:Nat}(m:Int):∀(fs:List zbM) (d:Dk) (outs:List OutR) (rest:Int),(fs.foldl (zbN who o n) ⟨{d with order:=m},outs,rest⟩).d={(fs.foldl (zbN who o n) ⟨d,outs,rest⟩).d with order:=m}
 |[],d,outs,rest=>rfl
 |f::fs,d,outs,rest=>by
  rw[List.foldl_cons,List.foldl_cons]
  exact zh4 m fs (zcY d (zbr d o.side who f.mparty n f.price f.qty 0)) _ _
theorem DOK.meets {N:Nat}{s:Dk}(h:DOK N s){who:Int}{n:Nat}{o:zap}{how m:Int}(hn:n<s.books.length)(ho:o.id≤m)(hm:s.order≤m∧m≤((N+1:Nat):Int)):DOK (N+1) {(zby s who n o how).d with order:=m}:=by
 have h':=h.up
 have ho0:=h.order
 have hs0:=h.seq
 have hbk:za8 s n∈s.books:=by
  unfold za8
  rw[List.getD_eq_getElem?_getD,gge hn]
  exact List.getElem_mem hn
 have hB:=h.bks _ hbk
 unfold zby
 dsimp only
 split
 ·exact⟨h'.rules,h'.nbk,h'.bks,fun l hl o ho=>⟨Int.le_trans (h'.bid l hl o ho).1 hm.1,(h'.bid l hl o ho).2⟩,⟨by show 0≤m;omega,hm.2⟩,h'.seq,h'.now,h'.quote,h'.ask,h'.nus,h'.us,h'.upq,h'.nq,h'.qs,h'.upa,h'.na,h'.as_,h'.row,h'.nd,h'.ncash,h'.cash,h'.npos,h'.pos,h'.nt,h'.head⟩
 ·show DOK (N+1) {(List.foldl _ _ _:FSt).d with order:=m}
  rw[←zh4]
  have hlen:=(zfs (how:=how) (o:={o with seq:=s.seq+1}) hB).1
  have hin:∀l∈s.books.set n (doV how {o with seq:=s.seq+1} (za8 s n)).bk,za6 l∧∀x∈l,x.id≤m∧x.seq≤s.seq+1:=by
   intro l hl
   rcases zbF hl with rfl|hl
   ·refine⟨zsY hB,fun x hx=> ?_⟩
    rcases zkH hB hx with ⟨y,hy,e1,e2,_⟩|⟨e1,e2,_⟩
    ·have:=h.bid _ hbk y hy
     omega
    ·have e1':x.id=o.id:=e1
     have e2':x.seq=s.seq+1:=e2
     omega
   ·refine⟨h.bks l hl,fun x hx=> ?_⟩
    have:=h.bid l hl x hx
    omega
  have hN:((N+1:Nat):Int)=(N:Int)+1:=by omega
  refine(DOKt.fills _ (N:=N+1) (M:=64*N) (s:=⟨{s with seq:=s.seq+1,books:=s.books.set n (doV how {o with seq:=s.seq+1} (za8 s n)).bk,order:=m},_,_⟩) ?_).all (by omega)
  exact⟨⟨h'.rules,by show(s.books.set n _).length=_;rw[List.length_set];exact h'.nbk,fun l hl=>(hin l hl).1,fun l hl=>(hin l hl).2,⟨by show 0≤m;omega,hm.2⟩,⟨by show 0≤s.seq+1;omega,by show s.seq+1≤_;omega⟩,h'.now,h'.quote,h'.ask,h'.nus,h'.us,h'.upq,h'.nq,h'.qs,h'.upa,h'.na,h'.as_,h'.row,h'.nd,h'.ncash,h'.cash,h'.npos,h'.pos,Nat.zero_le _,h'.head⟩,h.nt⟩
theorem zg6 {who:Int}{o:zap}{n:Nat}:∀(fs:List zbM) (s:FSt),(fs.foldl (zbN who o n) s).d.order=s.d.order
 |[],s=>rfl
 |f::fs,s=>by rw[List.foldl_cons,zg6 fs];rfl
theorem ze0 {s:Dk}{who:Int}{n:Nat}{o:zap}{how:Int}:(zby s who n o how).d.order=s.order:=by
 unfold zby
 dsimp only
 split
 ·rfl
 ·show(List.foldl _ _ _:FSt).d.order=s.order
  rw[zg6]
theorem DOK.meets0 {N:Nat}{s:Dk}(h:DOK N s){who:Int}{n:Nat}{o:zap}{how:Int}(hn:n<s.books.length)(ho:o.id≤s.order):DOK (N+1) (zby s who n o how).d:=by
 have h2:=h.order
 have h1:=h.meets (who:=who) (how:=how) hn ho ⟨Int.le_refl _,by omega⟩
 have e:(zby s who n o how).d.order=s.order:=ze0
 generalize (zby s who n o how).d=x at h1 e
 rw[←e]at h1
 exact h1
theorem DOK.halt {N:Nat}{s:Dk}(h:DOK N s)(n is:Int):DOK N (zdJ s n is).d:=by
 unfold zdJ
 split
 ·exact h
 ·split
  ·exact h
  ·rename_i h1 h2
   obtain⟨_,_,hm⟩:=zdn h.nbk (n:=n) (by simpa using h1)
   have hr:isR (s.bonds.set n.toNat {zbv s n with halted:=is==1}) s.parties s.look s.beat=true:=by
    have h0:=h.rules
    unfold isR at h0 ⊢
    simp only[Bool.and_eq_true,List.all_eq_true,List.length_set]at h0 ⊢
    refine⟨h0.1,⟨⟨fun b hb=> ?_,h0.2.1.1.2⟩,h0.2.1.2⟩,h0.2.2⟩
    rcases zbF hb with rfl|hb
    ·have hq:=h0.2.1.1.1 (zbv s n) hm
     exact hq
    ·exact h0.2.1.1.1 _ hb
   have hl:(s.bonds.set n.toNat {zbv s n with halted:=is==1}).length=s.bonds.length:=by simp
   exact⟨hr,h.nbk.trans hl.symm,h.bks,h.bid,h.order,h.seq,h.now,h.quote,h.ask,h.nus,h.us,h.upq,h.nq,h.qs,h.upa,h.na,fun a ha=>(h.as_ a ha).mono (Int.le_refl _) hl rfl (Int.le_refl _),h.row,h.nd,h.ncash,h.cash,h.npos,fun r hr=>⟨(h.pos r hr).1.trans hl.symm,(h.pos r hr).2⟩,h.nt,h.head⟩
theorem ziT {bs:List (List zap)}{id:Int}(h:¬zcx bs id<0):∃(i:Nat) (l:List zap),zcx bs id=i∧bs[i]? =some l∧(getO id l).isSome=true:=by
 unfold zcx at*
 rcases zc3 (p:=fun l=>(getO id l).isSome) bs with ⟨hi,_⟩|⟨i,x,hi,hx,hp,_⟩
 ·omega
 ·exact⟨i,x,hi,hx,hp⟩
theorem ziU {id:Int}{l:List zap}{o:zap}(h:getO id l=some o):o∈l∧o.id=id:=by
 unfold getO at h
 have h1:=List.find?_some h
 exact⟨List.mem_of_find?_eq_some h,by simpa [hasO]using h1⟩
theorem DOK.setBook {N:Nat}{s:Dk}(h:DOK N s){n:Nat}{l m:List zap}(hl:s.books[n]? =some l)(hB:za6 m)(hm:∀y∈m,∃x∈l,y.id=x.id∧y.seq=x.seq):DOK N {s with books:=s.books.set n m}:=by
 refine h.books (by simp) (fun k hk=> ?_) (fun k hk o ho=> ?_)
 ·rcases zbF hk with rfl|hk
  ·exact hB
  ·exact h.bks k hk
 ·rcases zbF hk with rfl|hk
  ·obtain⟨x,hx,e1,e2⟩:=hm o ho
   have:=h.bid l (mog hl) x hx
   omega
  ·exact h.bid k hk o ho
theorem za6.lessAll {l:List zap}(h:za6 l)(id left:Int):za6 (zb2 id left l):=by
 by_cases hE:zdp id left l=0
 ·exact h.less hE
 ·rw[zll hE];exact h
theorem DOK.changes {N:Nat}{s:Dk}(h:DOK N s)(who kind id price qty:Int):DOK (N+1) (zbm s who kind id price qty).d:=by
 unfold zbm
 dsimp only
 split
 ·exact h.up
 ·rename_i hn
  obtain⟨n,l,e1,e2,e3⟩:=ziT hn
  have hnl:=(gsi.1 e2).1
  have hat:za8 s n=l:=by unfold za8;rw[List.getD_eq_getElem?_getD,e2];rfl
  rw[e1]
  simp only[Int.toNat_natCast,hat]
  have hB:=h.bks l (mog e2)
  have hdrop:∀k,DOK N {s with books:=s.books.set n (zbf k l)}:=fun k=>h.setBook e2 (hB.drop _) (fun y hy=>⟨y,zb5 hy,rfl,rfl⟩)
  split
  ·exact h.up
  ·rename_i o ho
   have hoi:=ziU ho
   split
   ·exact h.up
   ·split
    ·split
     ·exact h.up
     ·split
      ·exact(h.setBook e2 (hB.lessAll _ _) (fun y hy=>by
        obtain⟨x,hx,a,b,_⟩:=zej hy
        exact⟨x,hx,a,b⟩)).up
      ·have hk:=hdrop o.id
       have h1:=h.bid l (mog e2) o hoi.1
       exact hk.meets0 (who:=who) (n:=n) (o:={o with price:=price,left:=qty}) (how:=0) (by show n<(s.books.set n _).length;rw[List.length_set];exact hnl) h1.1
    ·exact(hdrop id).up
theorem DOK.comes {N:Nat}{s:Dk}(h:DOK N s)(who:Int)(m:MsgR):DOK (N+1) (zcg s who m).d:=by
 unfold zcg
 dsimp only
 split
 ·exact h.up
 ·rename_i h1
  obtain⟨hn,_,_⟩:=zdn h.nbk (n:=m.f0) (by simpa using h1)
  split
  ·exact h.up
  ·split
   ·exact h.up
   ·have ho:=h.order
    have hN:((N+1:Nat):Int)=(N:Int)+1:=by omega
    split
    ·have hm:=h.meets (who:=who) (n:=m.f0.toNat) (o:=⟨s.order+1,0,who,m.f1,m.f2,m.f3⟩) (how:=m.f4) (m:=s.order+1) (by omega) (Int.le_refl _) ⟨by omega,by omega⟩
     show DOK (N+1) {(zby s who m.f0.toNat ⟨s.order+1,0,who,m.f1,m.f2,m.f3⟩ m.f4).d with order:=(zby s who m.f0.toNat ⟨s.order+1,0,who,m.f1,m.f2,m.f3⟩ m.f4).d.order+1}
     rw[ze0]
     exact hm
    ·rename_i herr
     unfold zby at herr ⊢
     dsimp only at herr ⊢
     split
     ·exact h.up
     ·rename_i h0
      rw[if_neg h0]at herr
      exact absurd rfl herr
theorem zkK {l:List Due}{d:Due}:(addD l d).length≤l.length+1:=zpA.1
theorem DOK.ask' {N:Nat}{s:Dk}(h:DOK N s)(who:Int)(m:MsgR):DOK (N+1) (askD s who m).d:=by
 unfold askD
 dsimp only
 split
 ·exact h.up
 ·rename_i h1
  obtain⟨hn,_,hbm⟩:=zdn h.nbk (n:=m.f0) (by simpa using h1)
  have hbd:=(zbO h.rules).2.2.2.1 _ hbm
  split
  ·exact h.up
  ·rename_i h2
   split
   ·exact h.up
   ·split
    ·exact h.up
    ·rename_i h4
     have hq:=zrA hbd (Decidable.not_not.1 h4)
     split
     ·exact h.up
     ·rename_i h5
      split
      ·exact h.up
      ·rename_i h6
       split
       ·exact h.up
       ·have hr:zcs s.parties who≠0:=by
         intro e
         apply h5
         unfold zf9
         rw[if_pos (by omega)]
         decide
        obtain⟨w1,w2,_⟩:=zcD hr
        have hw:=zck (show inB m.f4 1 1000=true by simpa [zeV]using h6)
        have h':=h.up
        have ha:=h.ask
        have hnw:=h.now
        have hN:((N+1:Nat):Int)=(N:Int)+1:=by omega
        have hdl:0≤m.f3%18446744073709551616∧m.f3%18446744073709551616≤18446744073709551615:=by omega
        have hs:isB m.f1=true:=by simpa using h2
        have hbl:=h.nbk
        refine⟨h'.rules,h'.nbk,h'.bks,h'.bid,h'.order,h'.seq,h'.now,h'.quote,⟨by show 0≤s.ask+1;omega,by show s.ask+1≤_;omega⟩,h'.nus,h'.us,h'.upq,h'.nq,h'.qs,zqS h.upa,Nat.le_trans zpw (Nat.succ_le_succ h.na),fun a ha'=> ?_,zew h.row,Nat.le_trans zkK (Nat.succ_le_succ h.nd),h'.ncash,h'.cash,h'.npos,h'.pos,h'.nt,h'.head⟩
        rcases zfu ha' with rfl|ha'
        ·exact⟨⟨by show 1≤s.ask+1;omega,by show s.ask+1≤s.ask+1;omega⟩,⟨hn.1,by show m.f0<(s.bonds.length:Int);omega⟩,hs,hq,⟨w1,w2⟩,hdl,⟨by show 1≤s.now+m.f4;omega,by show s.now+m.f4≤s.now+1000;omega⟩⟩
        ·exact(h.as_ a ha').mono (by show s.ask≤s.ask+1;omega) rfl rfl (Int.le_refl _)
theorem DOK.bondA {N:Nat}{s:Dk}(h:DOK N s){a:AskR}(ha:a∈s.asks):zcE s a.bond=true∧zcU (zbv s a.bond)=true:=by
 obtain⟨_,⟨b1,b2⟩,_⟩:=h.as_ a ha
 have hl:=h.nbk
 have hn:zcE s a.bond=true:=by
  unfold zcE
  simp only[Bool.and_eq_true,decide_eq_true_eq]
  omega
 exact⟨hn,(zbO h.rules).2.2.2.1 _ (zdn h.nbk hn).2.2⟩
theorem DOK.quote' {N:Nat}{rf:Bool}{s:Dk}(h:DOK N s){who:Int}(hw:0≤who∧who<s.parties.length)(m:MsgR):DOK (N+1) (zcZ rf s who m).d:=by
 unfold zcZ
 split
 ·exact h.up
 ·rename_i a hg
  have hbd:=(h.bondA (zbh hg).1).2
  split
  ·exact h.up
  ·split
   ·exact h.up
   ·split
    ·exact h.up
    ·split
     ·exact h.up
     ·rename_i h4
      have hp:=zpE hbd (Decidable.not_not.1 h4)
      split
      ·exact h.up
      ·rename_i h5
       have hwn:=zck (show inB m.f2 1 1000=true by simpa [zeV]using h5)
       dsimp only
       split
       ·exact h.up
       ·have h':=h.up
        have hq:=h.quote
        have hnw:=h.now
        have hN:((N+1:Nat):Int)=(N:Int)+1:=by omega
        have hrow:∀d,RowD (addD (if rf=true then zbg s.due 3 (oldQ ⟨s.quote+1,a.id,who,m.f1,s.now+m.f2,true⟩ s.quotes)else s.due) d):=fun d=>by
         refine zew ?_
         split
         ·exact zbH h.row
         ·exact h.row
        have hlen:∀d,(addD (if rf=true then zbg s.due 3 (oldQ ⟨s.quote+1,a.id,who,m.f1,s.now+m.f2,true⟩ s.quotes)else s.due) d).length≤N+1:=fun d=>by
         refine Nat.le_trans zkK (Nat.succ_le_succ ?_)
         split
         ·exact Nat.le_trans (zcH _ _ _) h.nd
         ·exact h.nd
        refine⟨h'.rules,h'.nbk,h'.bks,h'.bid,h'.order,h'.seq,h'.now,⟨by show 0≤s.quote+1;omega,by show s.quote+1≤_;omega⟩,h'.ask,h'.nus,h'.us,zqU h.upq,Nat.le_trans zpu (Nat.succ_le_succ h.nq),fun q hq'=> ?_,h'.upa,h'.na,h'.as_,hrow _,hlen _,h'.ncash,h'.cash,h'.npos,h'.pos,h'.nt,h'.head⟩
        rcases zjK hq' with rfl|⟨u,hu,hs⟩
        ·exact⟨⟨by show 1≤s.quote+1;omega,by show s.quote+1≤s.quote+1;omega⟩,hw,hp,⟨by show 1≤s.now+m.f2;omega,by show s.now+m.f2≤s.now+1000;omega⟩⟩
        ·exact zc6.same (zc6.mono (h.qs u hu) (by show s.quote≤s.quote+1;omega) rfl (Int.le_refl _)) hs
theorem DOK.pull' {N:Nat}{rf:Bool}{s:Dk}(h:DOK N s)(who id:Int):DOK N (zc4 rf s who id).d:=by
 unfold zc4
 split
 ·exact h
 ·split
  ·exact h
  ·split
   ·exact h
   ·split
    ·exact h
    ·refine h.turn _ s.asks _ (zpB h.upq) (by rw[znQ];exact h.nq) (fun y hy=>zh3 hy) h.upa h.na (fun y hy=>zcn hy) ?_ ?_
     ·split
      ·exact zbH h.row
      ·exact h.row
     ·split
      ·exact Nat.le_trans (zcH _ _ _) h.nd
      ·exact h.nd
theorem DOK.hitq {N:Nat}{s:Dk}(h:DOK N s)(a:AskR)(q:zat):DOK (N+1) (hitQ s a q).d:=by
 unfold hitQ
 split
 ·exact h.up
 ·split
  ·exact h.up
  ·split
   ·exact h.up
   ·split
    ·exact h.up
    ·have hl:=zpx (id:=a.id) (quote:=q.id) (until_:=s.now+s.look) h.upa
     exact h.up.turn s.quotes _ _ h.upq h.up.nq (fun y hy=>zfX hy) hl.1 (by rw[hl.2];exact h.up.na) (fun y hy=>zh1 hy) (zew h.row) (Nat.le_trans zkK (Nat.succ_le_succ h.nd))
theorem DOK.hit' {N:Nat}{s:Dk}(h:DOK N s)(who id:Int):DOK (N+1) (hitD s who id).d:=by
 unfold hitD
 split
 ·exact h.up
 ·split
  ·exact h.up
  ·split
   ·exact h.up
   ·exact h.hitq _ _
theorem DOK.best' {N:Nat}{s:Dk}(h:DOK N s)(who id:Int):DOK (N+1) (zfq s who id).d:=by
 unfold zfq
 split
 ·exact h.up
 ·split
  ·exact h.up
  ·split
   ·exact h.up
   ·exact h.hitq _ _
theorem DOK.usedSet {N:Nat}{s:Dk}(h:DOK N s){i:Nat}{n:Int}(hn:0≤n∧n≤9223372036854775807):DOK N {s with used:=s.used.set i n}:=
 ⟨h.rules,h.nbk,h.bks,h.bid,h.order,h.seq,h.now,h.quote,h.ask,by show(s.used.set i n).length=_;rw[List.length_set];exact h.nus,fun u hu=>by
   rcases zbF hu with rfl|hu
   ·exact hn
   ·exact h.us u hu,h.upq,h.nq,h.qs,h.upa,h.na,h.as_,h.row,h.nd,h.ncash,h.cash,h.npos,h.pos,h.nt,h.head⟩
theorem znS {l:List Int}(h:∀u∈l,0≤u∧u≤9223372036854775807)(who:Int):0≤zdY l who∧zdY l who≤9223372036854775807:=by
 unfold zdY
 rcases hx:at0 l who with _|u
 ·simp
 ·exact h u (znR hx)
theorem zkL {ps:List zaG}{used:List Int}{who price qty:Int}(h:zdb ps used who price qty=0):zcs ps who=2∧1≤price∧1≤qty∧zdY used who+price*qty≤9223372036854775807:=by
 unfold zdb at h
 split at h
 ·omega
 ·split at h
  ·omega
  ·split at h
   ·omega
   ·split at h
    ·omega
    ·omega
theorem DOK.looks' {N:Nat}{rf:Bool}{s:Dk}(h:DOK N s)(who kind id:Int):DOK (N+1) (zc1 rf s who kind id).d:=by
 unfold zc1
 split
 ·exact h.up
 ·rename_i a hg
  split
  ·exact h.up
  ·dsimp only
   split
   ·exact h.up
   ·split
    ·refine(DOK.lookEnds ?_ a).up
     exact h.turn s.quotes s.asks _ h.upq h.nq (fun y hy=>zfX hy) h.upa h.na (fun y hy=>zcn hy) (zbH h.row) (Nat.le_trans (zcH _ _ _) h.nd)
    ·split
     ·exact h.up
     ·split
      ·exact h.up
      ·rename_i h5
       obtain⟨r1,r2,r3,r4⟩:=zkL (Decidable.not_not.1 h5)
       have hu:=znS h.us (qOf s a.hit).dealer
       have hm:0≤(qOf s a.hit).price*a.qty:=Int.mul_nonneg (by omega) (by omega)
       have h1:=h.usedSet (i:=(qOf s a.hit).dealer.toNat) (n:=zdY s.used (qOf s a.hit).dealer+(qOf s a.hit).price*a.qty) ⟨by omega,r4⟩
       have h2:=(h1.asks (zfW (id:=a.id) (state:=3) h1.upa) (fun y hy=>zdP hy)).clear a.id
       have h3:=h2.up
       refine(DOKt.trade (N:=N+1) (M:=64*N) ⟨h3.noT.ok,h2.nt⟩ _).all (by omega)
theorem DOK.dropA {N:Nat}{s:Dk}(h:DOK N s)(who id:Int):DOK N (zbE s who id).d:=by
 unfold zbE
 split
 ·exact h
 ·split
  ·exact h
  ·exact h.dies _
theorem znT {ps:List zaG}{who:Int}(h:mayV ps who 10=true):0≤who∧who<ps.length:=by
 have h2:zcs ps who=2:=by simpa [mayV]using h
 obtain⟨a,b,_⟩:=zcD (ps:=ps) (who:=who) (by rw[h2];decide)
 exact⟨a,b⟩
theorem DOK.does {N:Nat}{rf:Bool}{s:Dk}(h:DOK N s)(who:Int)(m:MsgR):DOK (N+1) (zcL rf s who m).d:=by
 unfold zcL
 split
 ·exact h.up
 ·rename_i hm
  split
  ·exact h.comes who m
  ·split
   ·exact h.changes _ _ _ _ _
   ·split
    ·rename_i hk
     refine h.quote' (znT ?_) m
     rw[hk]at hm
     cases hv:mayV s.parties who 10
     ·exact absurd (.inr (.inr hv)) hm
     ·rfl
    ·split
     ·exact(h.pull' _ _).up
     ·split
      ·exact h.hit' _ _
      ·split
       ·exact h.best' _ _
       ·split
        ·exact h.looks' _ _ _
        ·split
         ·exact(h.dropA _ _).up
         ·split
          ·exact h.ask' _ _
          ·exact(h.halt _ _).up
theorem DOK.do' {N:Nat}{rf:Bool}{s:Dk}(h:DOK N s)(who seq:Int)(m:MsgR):DOK (N+1) (doD rf s who seq m).1:=h.does who m
theorem DOK.new {bs:List zaP}{ps:List zaG}{look beat:Int}(h:isR bs ps look beat=true):DOK 0 (zcV bs ps look beat):=by
 refine⟨h,by simp[zcV],fun l hl=> ?_,fun l hl o ho=> ?_,⟨Int.le_refl _,Int.le_refl _⟩,⟨Int.le_refl _,Int.le_refl _⟩,⟨Int.le_refl _,Int.le_refl _⟩,⟨Int.le_refl _,Int.le_refl _⟩,⟨Int.le_refl _,Int.le_refl _⟩,by simp[zcV],fun u hu=> ?_,List.Pairwise.nil,Nat.le_refl _,fun q hq=>(by cases hq),List.Pairwise.nil,Nat.le_refl _,fun a ha=>(by cases ha),RowD.nil,Nat.le_refl _,by simp[zcV],fun n hn=> ?_,by simp[zcV],fun r hr=> ?_,Nat.zero_le _,⟨Int.le_refl _,by show(0:Int)≤18446744073709551615;omega⟩⟩
 ·rw[(List.mem_replicate.1 hl).2];exact za6.nil
 ·rw[(List.mem_replicate.1 hl).2]at ho;cases ho
 ·rw[(List.mem_replicate.1 hu).2];omega
 ·rw[(List.mem_replicate.1 hn).2];unfold inW;omega
 ·rw[(List.mem_replicate.1 hr).2]
  refine⟨by simp[zcV],fun n hn=> ?_⟩
  rw[(List.mem_replicate.1 hn).2];unfold inW;omega
end Go.Proofs.YteocfhdocpeokaaGreat
namespace Go.Proofs.YteocfhdocpeokaaGreat
open Go Go.Sl
attribute [local irreducible] AW ES EP Ld RetQ
set_option maxRecDepth 100000
theorem znU (W:World)(h:List zao):zax Tryz.prog W 52 [] h (fun v h'=>∃p,v=.pointer (some ⟨p,0,none⟩)∧h'=.blk p 152 [.slice none 0 0]::.own none 0 0 168 6 []::h):=by
 refine zax.conv (zm9 W h) ?_
 rintro v h' ⟨p,rfl,rfl⟩ w hw
 exact⟨_,(hw.own_nil 168 6).perm sel1,p,rfl,rfl⟩
def znV (bs:List zaP)(ps:List zaG)(look beat:Int)(k:Nat):Dk:={zcV bs ps look beat with books:=List.replicate k []}
theorem zkM {bs:List zaP}{ps:List zaG}{look beat:Int}(h:isR bs ps look beat=true):(1≤bs.length∧bs.length≤4)∧(1≤ps.length∧ps.length≤8)∧(1≤look∧look≤1000):=by
 unfold isR at h
 simp only[Bool.and_eq_true]at h
 have h1:=zck h.1.1
 have h2:=zck h.1.2
 have h3:=zck h.2.1.2
 omega
theorem zlv (W:World)(h:List zao)(AB:Option Addr)(cB:Nat)(bs:List zaP)(AP:Option Addr)(cP:Nat)(ps:List zaG)(look beat:Int)(hrB:zaz W h AB bs.length 7 (bs.flatMap zaP.enc))(hrP:zaz W h AP ps.length 3 (ps.flatMap zaG.enc))(hb:bs.length≤1000000)(hp:ps.length≤1000000):
 zax Tryz.prog W 18 [zdi AB bs.length cB AP ps.length cP look beat] h
  (fun v h'=>(isR bs ps look beat=false∧v=.pointer none∧h'=h)∨(isR bs ps look beat=true∧∃x bks rows,v=ptrV x.d∧h'=zae x (zcV bs ps look beat) bks rows h∧zaY (zcV bs ps look beat) bks rows)):=by
 refine zax.dropTo ?_
 have hF:=fun k (hk:∀c∈h,c∈k)=>zo4 W k AB cB bs AP cP ps look beat (hrB.mono hk) (hrP.mono hk) hb hp
 have hcb:=fun k (hk:∀c∈h,c∈k)=>zl1 W k AB bs.length cB (bs.flatMap zaP.enc) (hrB.mono hk) (by omega)
 have hcl:=fun k (hk:∀c∈h,c∈k)=>zgI W k AP ps.length cP (ps.flatMap zaG.enc) (hrP.mono hk) (by omega)
 refine zaf Tryz.func18 rfl rfl Tryz.results18 Tryz.ntmps18 rfl rfl ?_
 cases hR:isR bs ps look beat
 ·have hF0:=fun k hk=>(hF k hk).mono (R':=fun v h'=>v=.pointer none∧h'=k) (fun v h' hh=>by
   rcases hh with ⟨_,a,b⟩|⟨a,_⟩
   ·exact⟨a,b⟩
   ·rw[hR]at a;cases a)
  repeat' (first|apply zah|apply zaa|apply zak|apply zag|apply zac hT;iterate 4 exact rfl|(apply zau (hs:=(hF0 _ kX));(iterate 7 exact rfl);rintro _ _ ⟨rfl,rfl⟩)|(apply zad;(iterate 5 exact rfl);first|(apply zaF hT;exact rfl;exact rfl;exact mX;exact rfl))|apply zaA;(iterate 5 exact rfl);intro _|apply zas;iterate 2 exact rfl)
  all_goals(apply ret1;exact rfl;exact⟨h,dX,.inl ⟨rfl,rfl,rfl⟩⟩)
 ·obtain⟨⟨b1,b2⟩,⟨p1,p2⟩,_⟩:=zkM hR
  have hF1:=fun k hk=>(hF k hk).mono (R':=fun v h'=>∃p A c U u,v=.pointer (some ⟨p,0,none⟩)∧h'=zdW p A c U u ps (List.replicate ps.length 0) k) (fun v h' hh=>by
   rcases hh with ⟨a,_⟩|⟨_,a⟩
   ·rw[hR]at a;cases a
   ·exact a)
  have hps:zfh ps.length bs.length=true:=by unfold zfh;simp;omega
  have hP1:=fun k=>(zm7 W k ps.length bs.length).mono (R':=fun v h'=>∃p AC cC AR cR rs,v=.pointer (some ⟨p,0,none⟩)∧h'=zbo p AC cC AR cR (List.replicate ps.length 0) rs k∧rs.map PRow.l=List.replicate ps.length (List.replicate bs.length 0)) (fun v h' hh=>by
   rcases hh with ⟨a,_⟩|⟨_,a⟩
   ·rw[hps]at a;cases a
   ·exact a)
  repeat' (first|apply zah|apply zaa|apply zam|apply zaj|apply zag|apply zac hT;iterate 4 exact rfl|(apply zbZ [] [48,49,50,6,51] (.step 0 <| .step 1 <| .step 5 <| .step 6 <| .step 7 <| .step 8 <| .step 9 <| .step 10 <| .step 2 <| .step 3 <| .step 4 <| .step 11 <| .step 12 <| .step 13 <| .step 14 <| .step 15 <| .nil) hmix;decide+kernel)|apply zcJ|apply zf7|apply zb7;exact rfl|(apply zbZ [] [] (.step 0 <| .step 1 <| .step 3 <| .alt (.step 2 <| .step 4 <| .step 6 <| .step 5 <| .step 7 <| .step 8 <| .step 9 <| .nil) ((.step 4 <| .step 2 <| .step 6 <| .step 5 <| .step 7 <| .step 8 <| .step 9 <| .nil))) hmix;decide+kernel)|(apply zau (hs:=(hF1 _ kX));(iterate 7 exact rfl);rintro _ _ ⟨pf,Af,cf,Uf,uf,rfl,rfl⟩)|(apply zau (hs:=(hcb _ kX));(iterate 7 exact rfl);rintro _ _ ⟨A1,c1,rfl,rfl⟩)|(apply zau (hs:=(hcl _ kX));(iterate 7 exact rfl);rintro _ _ ⟨A2,c2,rfl,rfl⟩)|apply zcz (hs:=(zl2 W _));(iterate 7 exact rfl);(rintro _ _ ⟨pq,rfl,rfl⟩;refine⟨[_],rfl,?_⟩)|apply zcz (hs:=(zo5 W _));(iterate 7 exact rfl);(rintro _ _ ⟨pa,rfl,rfl⟩;refine⟨[_],rfl,?_⟩)|apply zcz (hs:=(zo6 W _));(iterate 7 exact rfl);(rintro _ _ ⟨pu,rfl,rfl⟩;refine⟨[_],rfl,?_⟩)|apply zcz (hs:=(zm8 W _));(iterate 7 exact rfl);(rintro _ _ ⟨pb,rfl,rfl⟩;refine⟨[_],rfl,?_⟩)|apply zcz (hs:=(hP1 _));(iterate 7 exact rfl);(rintro _ _ ⟨pp,AC,cC,AR,cR,rows,rfl,rfl,hrows⟩;refine⟨_::_::_::rows.map PRow.ck,rfl,?_⟩)|(apply zar hT;(iterate 6 exact rfl);exact sX;(iterate 3 exact rfl);exact nle rfl)|apply zaE hT (cs:=[.slice A1 bs.length c1,.slice A2 ps.length c2,.int .i64 look,.int .i64 beat,.int .i64 0,.slice none 0 0,ptrV pf,ptrV pq,ptrV pa,ptrV pu,ptrV pp,ptrV pb,.int .i64 0,.int .i64 0,.int .i64 0,.int .i64 0]);iterate 4 exact rfl|apply zaA;(iterate 5 exact rfl);intro gd|(apply zad;(iterate 5 exact rfl);first|(apply zaq hT;exact rfl;exact rfl;exact mX;exact rfl;exact rfl)|(apply zaF hT;exact rfl;exact rfl;exact mX;exact rfl))|apply zan;iterate 2 exact rfl)
  all_goals try omega
  all_goals
   refine zbI (fun w hw=>⟨_,((((hw.own_nil 113 1).own_nil 174 6).own_nil 87 10).own_nil 160 3).own_nil 30 8,?_⟩)
   refine za1 (α:=Nat×Sp×List BAd) (E:=fun x=>[(4,ptrV gd),(34,.int .i64 bs.length),(35,.int .i64 x.1)])
    (H:=fun x=>zae ⟨gd,pf,pq,pa,pu,pp,pb,⟨A1,c1⟩,⟨A2,c2⟩,x.2.1,⟨Af,cf⟩,⟨Uf,uf⟩,⟨none,0⟩,⟨none,0⟩,⟨none,0⟩,⟨AC,cC⟩,⟨AR,cR⟩,⟨none,0⟩⟩ (znV bs ps look beat x.1) x.2.2 rows h) (μ:=fun x=>bs.length - x.1)
    (S:=fun x=>x.1≤bs.length∧x.2.2.map BAd.l=List.replicate x.1 []) (0,⟨none,0⟩,[]) ⟨Nat.zero_le _,rfl⟩ ⟨rfl,rfl,rfl,trivial⟩ ?_ ?_
   ·simp only[zae,zbD,znV,zcV,Sp.sl,Sp.own,zdW,zbo,List.length_replicate,List.map_replicate,List.length_nil,List.flatMap_nil,List.map_nil,List.replicate_zero,List.nil_append]
    exact dX
   ·rintro⟨k,sp,bks⟩ ⟨hk,hbk⟩
    dsimp only at hk hbk ⊢
    have hlen:bks.length=k:=by have:=congrArg List.length hbk;simpa using this
    by_cases hlt:k<bs.length
    ·have hd1:decide ((k:Int)<(bs.length:Int))=true:=by simp;omega
     simp only[zae,zbD,znV,zcV,Sp.sl,Sp.own,List.length_replicate,List.map_replicate,List.length_nil,List.flatMap_nil,List.map_nil]
     repeat' (first|apply zah|apply zaa|apply zam|apply zaj|apply zag|apply zac hT;iterate 4 exact rfl|(apply zaM hT;(iterate 4 exact rfl);(iterate 2 (first|omega)))|(apply zbZ [] [] (.step 0 <| .step 1 <| .step 2 <| .step 3 <| .alt (.step 4 <| .step 5 <| .step 6 <| .step 7 <| .step 8 <| .step 9 <| .step 10 <| .nil) ((.step 5 <| .step 4 <| .step 6 <| .step 7 <| .step 8 <| .step 9 <| .step 10 <| .nil))) hmix;decide+kernel)|apply zcJ|apply zf7|apply zb7;exact rfl|apply zau (hs:=(znU W _));(iterate 7 exact rfl);rintro _ _ ⟨pk,rfl,rfl⟩|apply zaB hT;(iterate 12 exact rfl);intro g43|(apply zbb hT;(iterate 10 exact rfl);exact sX;exact zaz.own mem0 rfl (List.all_eq_true.1 rfl);omega;(show(_:Nat)*8≤_;omega);intro A' c')|(apply zar hT;(iterate 6 exact rfl);exact sX;(iterate 3 exact rfl);exact nle rfl)|(apply zad;(iterate 5 exact rfl);first|(apply zaq hT;exact rfl;exact rfl;exact mX;exact rfl;exact rfl))|(apply zal;exact rfl;all_goals(intro hb;(try dsimp only at hb);(try simp only[hb]);(first|replace hb:=odt hb|replace hb:=odf hb);(try omega))))
     all_goals try omega
     all_goals
      refine zaD (k+1,⟨A',c'⟩,bks++[⟨pk,⟨none,0⟩,[]⟩]) (by dsimp only;omega) ⟨by dsimp only;omega,by dsimp only;rw[List.map_append,hbk,List.replicate_succ'];rfl⟩ ⟨rfl,rfl,rfl,trivial⟩ ?_
      dsimp only
      rw[List.map_append,List.flatMap_append,List.append_assoc]
      simp only[List.flatMap_cons,List.flatMap_nil,BAd.ck,Sp.sl,Sp.own,List.cons_append,List.nil_append,List.append_nil,List.length_nil]
      iterate 18 (apply zaQ;· exact sX)
      refine zm0 ?_
      apply zaQ;· exact sX
      refine zm0 ?_
      apply zaQ;· exact sX
      exact dX
    ·obtain rfl:k=bs.length:=by omega
     have hd1:decide ((bs.length:Int)<(bs.length:Int))=false:=by simp
     repeat' (first|apply zah|apply zaa|apply zak|apply zaN|apply zag|apply zac hT;iterate 4 exact rfl|(apply zal;exact rfl;all_goals(intro hb;(try dsimp only at hb);(try simp only[hb]);(first|replace hb:=odt hb|replace hb:=odf hb);(try omega))))
     all_goals first
      |(exfalso;omega)
      |(apply ret1;exact rfl;exact⟨_,zaX,.inr ⟨by trivial,⟨gd,pf,pq,pa,pu,pp,pb,⟨A1,c1⟩,⟨A2,c2⟩,sp,⟨Af,cf⟩,⟨Uf,uf⟩,⟨none,0⟩,⟨none,0⟩,⟨none,0⟩,⟨AC,cC⟩,⟨AR,cR⟩,⟨none,0⟩⟩,bks,rows,rfl,rfl,hbk,hrows⟩⟩)
      |skip
end Go.Proofs.YteocfhdocpeokaaGreat
namespace Go.Proofs.YteocfhdocpeokaaGreat
open Go Go.Sl
attribute [local irreducible] AW ES Ld RetQ
set_option maxRecDepth 100000
theorem zkN (W:World)(h:List zao)(A:Option Addr)(n c:Nat)(cs:List Value)(hr:zaz W h A n 8 cs)(hb:n*64≤140737488355328):
 zax Tryz.prog W 103 [.slice A n c] h (fun v h'=>∃A' c',v=.slice A' n c'∧h'=.own A' n c' 30 8 cs::h):=by
 refine zax.drop ?_
 refine zaf Tryz.func103 rfl rfl Tryz.results103 Tryz.ntmps103 rfl rfl ?_
 refine zaI hr rfl (fun hA=> ?_)
 cases A with
 |none=>
  have hn:n=0:=by
   rcases Nat.eq_zero_or_pos n with h|h
   ·exact h
   ·have:=hA h;simp at this
  subst hn
  have hcs:cs=[]:=List.eq_nil_of_length_eq_zero (by simpa using hr.len)
  subst hcs
  refine zbI (fun w hw=>⟨_,hw.own_nil 30 8,?_⟩)
  repeat' (first|apply zah|apply zaa|apply zak|apply zag|apply zac hT;iterate 4 exact rfl|apply zas;iterate 2 exact rfl)
  apply ret1;exact rfl
  exact⟨[],_,plr _,none,0,rfl,rfl⟩
 |some ad=>
  repeat' (first|apply zah|apply zaa|apply zak|apply zam|apply zag|apply zac hT;iterate 4 exact rfl|apply zaB hT;(iterate 12 exact rfl);intro g1|apply zbb hT;(iterate 10 exact rfl);exact sel0;exact hr.cons;omega;(show(0+n)*64≤_;omega);intro A' c'|apply zan;iterate 2 exact rfl)
  apply ret1;exact rfl
  refine⟨[],_,plr _,A',c',by rw[Nat.zero_add],?_⟩
  show zao.own A' (0+n) c' 30 8 ([]++cs)::h=_
  simp
theorem ziV (W:World)(h:List zao)(A:Option Addr)(n c:Nat)(l:List AskR)(hn:l.length=n)(hr:zaz W h A n 10 (l.flatMap AskR.enc))(fn:FuncId)(cap:List Value)(p:AskR→Bool)
 (hf:∀x∈l,zaw Tryz.prog W fn ([.agg x.enc.toArray]++cap) h (.bool (p x)))(hb:n≤4611686018427387903):
 zaw Tryz.prog W 100 [.slice A n c,.func (.func fn) #[] cap.toArray] h (.int .i64 (zaT p l)):=by
 refine zaw.of (fun h' hs=> ?_)
 have hr':=hr.mono hs
 refine zaf Tryz.func100 rfl rfl Tryz.results100 Tryz.ntmps100 rfl rfl ?_
 refine zaI hr' rfl (fun hA=> ?_)
 repeat' (first|apply zah|apply zaa|apply zaj|apply zag|apply zac hT;iterate 4 exact rfl)
 refine zbT (α:=Nat) (E:=fun k=>[(0,.slice A n c),(1,.func (.func fn) #[] cap.toArray),(7,.int .i64 n),(8,.int .i64 k)]) (H:=fun _=>h') (μ:=fun k=>n - k)
  (S:=fun k=>k≤n∧∀(j:Nat) y,j<k→l[j]? =some y→p y=false) 0 (J:=[]) ⟨Nat.zero_le _,fun j y hj=>by omega⟩ ⟨rfl,rfl,rfl,rfl,trivial⟩ (plr _) ?_
 rintro k ⟨hk1,hk2⟩
 by_cases hlt:k<n
 ·obtain⟨x,hx⟩:∃x,l[k]? =some x:=⟨l[k]'(by omega),gge (by omega)⟩
  have hx2:l[(k:Int).toNat]? =some x:=by simpa using hx
  have hfx:=(hf x (mog hx)).mono hs
  have hA':=hA (by omega)
  repeat' (first|apply zah|apply zaa|apply zak|apply zam|apply zaj|apply zag|apply zac hT;iterate 4 exact rfl|(apply zaM hT;(iterate 4 exact rfl);(iterate 2 (first|omega)))|apply zaJ hT;(iterate 8 exact rfl);(iterate 2 omega);exact hA'|apply zad;(iterate 5 exact rfl);exact zaO hT rfl rfl hr' AskR.enc_len rfl hx2 rfl|apply zab (hs:=hfx);iterate 7 exact rfl|(apply zal;exact rfl;all_goals(intro hb;(try dsimp only at hb);(try simp only[hb]);(first|replace hb:=odt hb|replace hb:=odf hb|skip);(try omega))))
  ·exact zca (J:=[]) rfl (by rw[zds hx hb hk2]) (plr _)
  ·have hpx:=hb
   refine⟨k+1,[],by dsimp only;omega,⟨by omega,fun j y hj hy=> ?_⟩,⟨rfl,rfl,rfl,rfl,trivial⟩,plr _⟩
   by_cases hjk:j<k
   ·exact hk2 j y hjk hy
   ·obtain rfl:j=k:=by omega
    rw[hx]at hy;cases hy;exact hpx
 ·repeat' (first|apply zah|apply zaa|apply zak|apply zaN|apply zag|apply zac hT;iterate 4 exact rfl|(apply zal;exact rfl;all_goals(intro hb;(try dsimp only at hb);(try simp only[hb]);(first|replace hb:=odt hb|replace hb:=odf hb);(try omega))))
  exact zca (J:=[]) rfl (by rw[zb6 (fun(j:Nat) y hj=>hk2 j y (by have:=(gsi.1 hj).1;omega) hj)]) (plr _)
theorem zc7 (W:World)(h:List zao)(A:Option Addr)(n c:Nat)(l:List AskR)(hn:l.length=n)(hr:zaz W h A n 10 (l.flatMap AskR.enc))(fn:FuncId)(cap:List Value)(p:AskR→Bool)
 (hf:∀x∈l,zaw Tryz.prog W fn ([.agg x.enc.toArray]++cap) h (.bool (p x)))(hb:n≤4611686018427387903):
 zaw Tryz.prog W 62 [.slice A n c,.func (.func fn) #[] cap.toArray] h (.bool (decide (zaT p l≥0))):=by
 refine zaw.of (fun h' hs=> ?_)
 refine zaf Tryz.func62 rfl rfl Tryz.results62 Tryz.ntmps62 rfl rfl ?_
 repeat' (first|apply zah|apply zaa|apply zak|apply zag|apply zac hT;iterate 4 exact rfl|apply zab (hs:=((ziV W h A n c l hn hr fn cap p hf hb).mono hs));iterate 7 exact rfl)
 exact zca (J:=[]) rfl rfl (plr _)
end Go.Proofs.YteocfhdocpeokaaGreat
namespace Go.Proofs.YteocfhdocpeokaaGreat
open Go Go.Sl
attribute [local irreducible] AW ES EP Ld RetQ
set_option maxRecDepth 100000
theorem zlw (W:World)(x:DAd)(s:Dk):zaw Tryz.prog W 61 [ptrV x.d] [.blk x.d 112 (zbD x s)] (.int .i64 s.now):=by
 refine zaw.ofD (fun h' hs=> ?_)
 have m0:=hs _ mem0
 refine zaf Tryz.func61 rfl rfl Tryz.results61 Tryz.ntmps61 rfl rfl ?_
 repeat' (first|apply zah|apply zaa|apply zak|apply zam|apply zag|apply zac hT;iterate 4 exact rfl|(apply zad;(iterate 5 exact rfl);first|(apply zaq hT;exact rfl;exact rfl;(repeat(first|exact m0));exact rfl;exact rfl))|apply zan;iterate 2 exact rfl)
 all_goals first
  |(apply ret1;exact rfl;exact⟨rfl,dX⟩)
  |skip
theorem zlx (W:World)(x:DAd)(s:Dk):zaw Tryz.prog W 60 [ptrV x.d] [.blk x.d 112 (zbD x s)] (ptrV x.p):=by
 refine zaw.ofD (fun h' hs=> ?_)
 have m0:=hs _ mem0
 refine zaf Tryz.func60 rfl rfl Tryz.results60 Tryz.ntmps60 rfl rfl ?_
 repeat' (first|apply zah|apply zaa|apply zak|apply zam|apply zag|apply zac hT;iterate 4 exact rfl|(apply zad;(iterate 5 exact rfl);first|(apply zaq hT;exact rfl;exact rfl;(repeat(first|exact m0));exact rfl;exact rfl))|apply zan;iterate 2 exact rfl)
 all_goals first
  |(apply ret1;exact rfl;exact⟨rfl,dX⟩)
  |skip
theorem znW (W:World)(p:Nat)(sl:Value)(head:Int):zaw Tryz.prog W 99 [ptrV p] [.blk p 149 [sl,.int .u64 head]] (.int .u64 head):=by
 refine zaw.ofD (fun h' hs=> ?_)
 have m0:=hs _ mem0
 refine zaf Tryz.func99 rfl rfl Tryz.results99 Tryz.ntmps99 rfl rfl ?_
 repeat' (first|apply zah|apply zaa|apply zak|apply zam|apply zag|apply zac hT;iterate 4 exact rfl|(apply zad;(iterate 5 exact rfl);first|(apply zaq hT;exact rfl;exact rfl;(repeat(first|exact m0));exact rfl;exact rfl))|apply zan;iterate 2 exact rfl)
 all_goals first
  |(apply ret1;exact rfl;exact⟨rfl,dX⟩)
  |skip
theorem zjN (W:World)(x:DAd)(s:Dk)(sl:Value):zaw Tryz.prog W 59 [ptrV x.d] [.blk x.d 112 (zbD x s),.blk x.b 149 [sl,.int .u64 s.head]] (.int .u64 s.head):=by
 refine zaw.ofD (fun h' hs=> ?_)
 have m0:=hs _ mem0
 have m1:=hs _ mem1
 refine zaf Tryz.func59 rfl rfl Tryz.results59 Tryz.ntmps59 rfl rfl ?_
 repeat' (first|apply zah|apply zaa|apply zak|apply zam|apply zag|apply zac hT;iterate 4 exact rfl|(apply zab (hs:=((znW W x.b sl s.head).mono (by intro c hc;rw[lms.1 hc];exact m1)));iterate 7 exact rfl)|(apply zad;(iterate 5 exact rfl);first|(apply zaq hT;exact rfl;exact rfl;(repeat(first|exact m0));exact rfl;exact rfl))|apply zan;iterate 2 exact rfl)
 all_goals first
  |(apply ret1;exact rfl;exact⟨rfl,dX⟩)
  |skip
theorem zg7 (W:World)(x:DAd)(s:Dk)(n:Int):zaw Tryz.prog W 96 [ptrV x.d,.int .i64 n] [.blk x.d 112 (zbD x s)] (.bool (decide (n≥0)&&decide (n<s.books.length))):=by
 refine zaw.ofD (fun h' hs=> ?_)
 have m0:=hs _ mem0
 refine zaf Tryz.func96 rfl rfl Tryz.results96 Tryz.ntmps96 rfl rfl ?_
 repeat' (first|apply zah|apply zaa|apply zak|apply zag|apply zac hT;iterate 4 exact rfl|apply zaK;iterate 3 exact rfl|(apply zad;(iterate 5 exact rfl);first|(apply zaq hT;exact rfl;exact rfl;(repeat(first|exact m0));exact rfl;exact rfl))|(apply zaH;exact rfl;all_goals(intro hb;(fail_if_success (change true=true at hb));(fail_if_success (change false=false at hb));(try dsimp only at hb);(try simp only[hb]);(first|replace hb:=odt hb|replace hb:=odf hb);(try omega))))
 all_goals first
  |(apply ret1;exact rfl;exact⟨by(first|simp_all;done),dX⟩)
  |skip
theorem zjO (W:World)(x:DAd)(s:Dk)(bks:List BAd)(i:Nat)(b:BAd)(hl:bks.length=s.books.length)(hi:bks[i]? =some b)(h4:bks.length≤1000000):
 zaw Tryz.prog W 57 [ptrV x.d,.int .i64 i] [.blk x.d 112 (zbD x s),x.books.own s.books.length 113 1 (bks.map BAd.ptr)] (ptrV b.p):=by
 refine zaw.ofD (fun h' hs=> ?_)
 have m0:=hs _ mem0
 have m1:=hs _ mem1
 have hil:=(gsi.1 hi).1
 have hB:=(zg7 W x s i).cast (u:=.bool true) (by simp;omega)
 have hrd:zaz W h' x.books.A s.books.length 1 (bks.map BAd.ptr):=zaz.own m1 (by simp[hl]) (fun v hv=>by
  obtain⟨y,_,rfl⟩:=lmm.1 hv
  rfl)
 have hix:(bks.map BAd.ptr)[(i:Int).toNat*1]? =some (ptrV b.p):=by simp[hi];rfl
 refine zaf Tryz.func57 rfl rfl Tryz.results57 Tryz.ntmps57 rfl rfl ?_
 refine zaI hrd rfl (fun hA=> ?_)
 have hA':=hA (by omega)
 repeat' (first|apply zah|apply zaa|apply zak|apply zam|apply zag|apply zac hT;iterate 4 exact rfl|(apply zab (hs:=(hB.mono (by intro c hc;rw[lms.1 hc];exact m0)));iterate 7 exact rfl)|apply zaJ hT;(iterate 8 exact rfl);(iterate 2 omega);exact hA'|apply zad;(iterate 5 exact rfl);exact zbe hT rfl rfl hrd rfl hix|(apply zad;(iterate 5 exact rfl);first|(apply zaq hT;exact rfl;exact rfl;(repeat(first|exact m0));exact rfl;exact rfl))|apply zan;iterate 2 exact rfl)
 all_goals first
  |(apply ret1;exact rfl;exact⟨rfl,dX⟩)
  |skip
theorem znX (W:World)(h:List zao)(p:Nat)(A:Option Addr)(c:Nat)(l:List zaL)(hv:Value)(m0:zao.blk p 149 [.slice A l.length c,hv]∈h)(m1:zao.own A l.length c 30 8 (l.flatMap zaL.enc)∈h)(hb:l.length≤1000000):
 zax Tryz.prog W 67 [ptrV p] h (fun v h'=>∃A' c',v=.slice A' l.length c'∧h'=.own A' l.length c' 30 8 (l.flatMap zaL.enc)::h):=by
 have hrd:zaz W h A l.length 8 (l.flatMap zaL.enc):=zaz.own m1 (zda zaL.enc_len _) (fun v hv=>by
  obtain⟨y,_,hy⟩:=List.mem_flatMap.1 hv
  exact zaL.enc_one y v hy)
 refine zax.dropTo ?_
 refine zaf Tryz.func67 rfl rfl Tryz.results67 Tryz.ntmps67 rfl rfl ?_
 repeat' (first|apply zah|apply zaa|apply zak|apply zam|apply zag|apply zac hT;iterate 4 exact rfl|(apply zau (hs:=(zkN W _ A l.length c (l.flatMap zaL.enc) hrd (by omega)));(iterate 7 exact rfl);rintro _ _ ⟨A1,c1,rfl,rfl⟩)|(apply zad;(iterate 5 exact rfl);first|(apply zaq hT;exact rfl;exact rfl;(repeat(first|exact m0));exact rfl;exact rfl))|apply zan;iterate 2 exact rfl)
 all_goals first
  |(apply ret1;exact rfl;exact⟨_,zaX,A1,c1,rfl,rfl⟩)
  |skip
theorem ze1 (W:World)(h:List zao)(x:DAd)(s:Dk)(m0:zao.blk x.d 112 (zbD x s)∈h)(m1:zao.blk x.b 149 [x.trades.sl s.trades.length,.int .u64 s.head]∈h)(m2:x.trades.own s.trades.length 30 8 (s.trades.flatMap zaL.enc)∈h)(hb:s.trades.length≤1000000):
 zax Tryz.prog W 23 [ptrV x.d] h (fun v h'=>∃A' c',v=.slice A' s.trades.length c'∧h'=.own A' s.trades.length c' 30 8 (s.trades.flatMap zaL.enc)::h):=by
 refine zax.dropTo ?_
 have hL:=znX W h x.b x.trades.A x.trades.c s.trades (.int .u64 s.head) m1 m2 hb
 refine zaf Tryz.func23 rfl rfl Tryz.results23 Tryz.ntmps23 rfl rfl ?_
 repeat' (first|apply zah|apply zaa|apply zak|apply zam|apply zag|apply zac hT;iterate 4 exact rfl|apply zau (hs:=hL);(iterate 7 exact rfl);rintro _ _ ⟨A1,c1,rfl,rfl⟩|(apply zad;(iterate 5 exact rfl);first|(apply zaq hT;exact rfl;exact rfl;(repeat(first|exact m0));exact rfl;exact rfl))|apply zan;iterate 2 exact rfl)
 all_goals first
  |(apply ret1;exact rfl;exact⟨_,zaX,A1,c1,rfl,rfl⟩)
  |skip
theorem zpF (W:World)(h:List zao)(p:Nat)(A:Option Addr)(c:Nat)(l:List AskR)(m0:zao.blk p 144 [.slice A l.length c]∈h)(m1:zao.own A l.length c 87 10 (l.flatMap AskR.enc)∈h)(hb:l.length≤1000000):
 zax Tryz.prog W 66 [ptrV p] h (fun v h'=>∃A' c',v=.slice A' l.length c'∧h'=.own A' l.length c' 87 10 (l.flatMap AskR.enc)::h):=by
 have hrd:zaz W h A l.length 10 (l.flatMap AskR.enc):=zaz.own m1 (zda AskR.enc_len _) (fun v hv=>by
  obtain⟨y,_,hy⟩:=List.mem_flatMap.1 hv
  exact AskR.enc_one y v hy)
 refine zax.dropTo ?_
 refine zaf Tryz.func66 rfl rfl Tryz.results66 Tryz.ntmps66 rfl rfl ?_
 repeat' (first|apply zah|apply zaa|apply zak|apply zam|apply zag|apply zac hT;iterate 4 exact rfl|(apply zau (hs:=(zjx W _ A l.length c (l.flatMap AskR.enc) hrd (by omega)));(iterate 7 exact rfl);rintro _ _ ⟨A1,c1,rfl,rfl⟩)|(apply zad;(iterate 5 exact rfl);first|(apply zaq hT;exact rfl;exact rfl;(repeat(first|exact m0));exact rfl;exact rfl))|apply zan;iterate 2 exact rfl)
 all_goals first
  |(apply ret1;exact rfl;exact⟨_,zaX,A1,c1,rfl,rfl⟩)
  |skip
theorem zg8 (W:World)(h:List zao)(x:DAd)(s:Dk)(m0:zao.blk x.d 112 (zbD x s)∈h)(m1:zao.blk x.a 144 [x.asks.sl s.asks.length]∈h)(m2:x.asks.own s.asks.length 87 10 (s.asks.flatMap AskR.enc)∈h)(hb:s.asks.length≤1000000):
 zax Tryz.prog W 22 [ptrV x.d] h (fun v h'=>∃A' c',v=.slice A' s.asks.length c'∧h'=.own A' s.asks.length c' 87 10 (s.asks.flatMap AskR.enc)::h):=by
 refine zax.dropTo ?_
 have hL:=zpF W h x.a x.asks.A x.asks.c s.asks m1 m2 hb
 refine zaf Tryz.func22 rfl rfl Tryz.results22 Tryz.ntmps22 rfl rfl ?_
 repeat' (first|apply zah|apply zaa|apply zak|apply zam|apply zag|apply zac hT;iterate 4 exact rfl|apply zau (hs:=hL);(iterate 7 exact rfl);rintro _ _ ⟨A1,c1,rfl,rfl⟩|(apply zad;(iterate 5 exact rfl);first|(apply zaq hT;exact rfl;exact rfl;(repeat(first|exact m0));exact rfl;exact rfl))|apply zan;iterate 2 exact rfl)
 all_goals first
  |(apply ret1;exact rfl;exact⟨_,zaX,A1,c1,rfl,rfl⟩)
  |skip
end Go.Proofs.YteocfhdocpeokaaGreat
namespace Go.Sl
open Go Go.RowKit
variable {P : Program} {W : World} {h h' F : List zao}
theorem zaz.enc {α:Type}{enc:α→List Value}{k:Nat}(hk:∀x,(enc x).length=k)(h1:∀x,∀v∈enc x,v.oneCell'=true){A:Option Addr}{n c:Nat}{t:TypeId}{l:List α}(hm:zao.own A n c t k (l.flatMap enc)∈h)(hn:l.length=n):zaz W h A n k (l.flatMap enc):=
 zaz.own hm (by rw[zda hk,hn]) (fun v hv=>by
  obtain⟨y,_,hy⟩:=List.mem_flatMap.1 hv
  exact h1 y v hy)
theorem zaz.ints {A:Option Addr}{n c:Nat}{t:TypeId}{kd:IntKind}{l:List Int}(hm:zao.own A n c t 1 (l.map (Value.int kd))∈h)(hn:l.length=n):zaz W h A n 1 (l.map (Value.int kd)):=
 zaz.own hm (by simp[hn]) (fun v hv=>by
  obtain⟨y,_,rfl⟩:=lmm.1 hv
  rfl)
theorem zdr {x:zao}(hx:x∈h):∀c∈[x],c∈h:=fun c hc=>by
 rw[lms.1 hc];exact hx
theorem zbp {x y:zao}(hx:x∈h)(hy:y∈h):∀c∈[x,y],c∈h:=fun c hc=>by
 rcases List.mem_cons.1 hc with rfl|hc
 ·exact hx
 ·exact zdr hy c hc
theorem zd4 {x y z:zao}(hx:x∈h)(hy:y∈h)(hz:z∈h):∀c∈[x,y,z],c∈h:=fun c hc=>by
 rcases List.mem_cons.1 hc with rfl|hc
 ·exact hx
 ·exact zbp hy hz c hc
theorem zhB {x y z u:zao}(hx:x∈h)(hy:y∈h)(hz:z∈h)(hu:u∈h):∀c∈[x,y,z,u],c∈h:=fun c hc=>by
 rcases List.mem_cons.1 hc with rfl|hc
 ·exact hx
 ·exact zd4 hy hz hu c hc
theorem zeG {kd:IntKind}{l:List Int}{i:Nat}{n:Int}(h:l[i]? =some n):(l.map (Value.int kd))[i*1]? =some (.int kd n):=by simp[h]
theorem zpG {cs:List Value}{i:Nat}{v:Value}(h:i<cs.length):lay cs (i*1) [v]=cs.set i v:=by
 rw[Nat.mul_one];exact zm4 (by omega)
end Go.Sl
namespace Go.Sl
open Go Go.RowKit
variable {P : Program} {W : World} {T : Tab} {N : Nat} {env : Env} {h h' : List zao} {kf : KF} {ops : Array Oper} {K : Env → List zao → Prop} {o : Oper} {rest : List Oper}
theorem zly {L R:List zao}:(L++R).Perm (L++R):=plr _
theorem znY {x:zao}{F L G:List zao}(hp:F.Perm (L++G)):(x::F).Perm (L++x::G):=(hp.cons x).trans List.perm_middle.symm
theorem zqh {X F L G:List zao}(hp:F.Perm (L++G)):(X++F).Perm (L++(X++G)):=(hp.append_left X).trans (by
 rw[←List.append_assoc,←List.append_assoc]
 exact(List.perm_append_comm).append_right G)
theorem zrB {h L G F:List zao}(h1:h.Perm (L++G))(h2:G.Perm F):h.Perm (L++F):=h1.trans (h2.append_left L)
theorem zaS (hT:zbA P T){b:Bool}{d:Tmp}{ty pos af g}{t e:TypeId}{ti te:TI}{x ix:Operand}{ad:Addr}{gb off len:Nat}{i:Int}{k:IntKind}(hg:zbw ops env g=some b)(hb:b=true)(hd:Nat.blt d N=true)
 (ht:T.lookup t=some ti) (htd:ti.desc=.array len e) (hte:T.lookup e=some te) (hx:za0 env x=some (.pointer (some ad))) (hi:za0 env ix=some (.int k i)) (had:ad=⟨gb,off,none⟩) (h0:0≤i) (h1:i<len)
 (hK:ES P W N kf ops rest ((d,.pointer (some ⟨gb,off+i.toNat*te.size,none⟩))::env) h K):ES P W N kf ops (⟨some d,.indexAddr t x ix,ty,pos,af,g⟩::rest) env h K:=
 zch hg hb hd (fun a ha w=>by
  have g1:=hT _ _ ht
  have g2:=hT _ _ hte
  have hu:=g1.1
  rw[htd]at hu
  subst had
  simp[execOp,ha.eval hx,ha.eval hi,Instr.indexAt,Instr.sureAddr,asIntOf,run_underlying hu,h0,h1,g2.sz,zfL]) hK
theorem zkO (hT:zbA P T){b:Bool}{d:Tmp}{ty pos af g}{t e:TypeId}{ti te:TI}{x:Operand}{ad:Addr}{len:Nat}(hg:zbw ops env g=some b)(hb:b=true)(hd:Nat.blt d N=true)
 (ht:T.lookup t=some ti) (htd:ti.desc=.array len e) (hte:T.lookup e=some te) (hx:za0 env x=some (.pointer (some ad))) (h1:0<len)
 (hK:ES P W N kf ops rest ((d,.slice (some (ad.add 0)) len len)::env) h K):ES P W N kf ops (⟨some d,.slice t x none none none,ty,pos,af,g⟩::rest) env h K:=
 zch hg hb hd (fun a ha w=>by
  have g1:=hT _ _ ht
  have g2:=hT _ _ hte
  have hu:=g1.1
  rw[htd]at hu
  have hne:¬len=0:=by omega
  simp[execOp,ha.eval hx,Instr.sliceAt,Instr.sliceBounds,Instr.sureAddr,run_underlying hu,g2.sz,hne]) hK
theorem zbP (hT:zbA P T){b:Bool}{d:Tmp}{ty pos af g}{t e:TypeId}{ti te:TI}{x lo:Operand}{ad:Addr}{len:Nat}{k:IntKind}{i:Int}(hg:zbw ops env g=some b)(hb:b=true)(hd:Nat.blt d N=true)
 (ht:T.lookup t=some ti) (htd:ti.desc=.array len e) (hte:T.lookup e=some te) (hx:za0 env x=some (.pointer (some ad))) (hi:za0 env lo=some (.int k i)) (h0:0≤i) (h1:i≤len)
 (hK:ES P W N kf ops rest ((d,.slice (some (if len=i.toNat then ad else ad.add (i.toNat*te.size))) (len - i.toNat) (len - i.toNat))::env) h K):ES P W N kf ops (⟨some d,.slice t x (some lo) none none,ty,pos,af,g⟩::rest) env h K:=
 zch hg hb hd (fun a ha w=>by
  have g1:=hT _ _ ht
  have g2:=hT _ _ hte
  have hu:=g1.1
  rw[htd]at hu
  have h2:¬i<0:=by omega
  have h3:¬(len:Int)<i:=by omega
  simp[execOp,ha.eval hx,ha.eval hi,Instr.sliceAt,Instr.sliceBounds,Instr.sliceBound,Instr.sureAddr,asIntOf,run_underlying hu,g2.sz,h0,h1]) hK
end Go.Sl
