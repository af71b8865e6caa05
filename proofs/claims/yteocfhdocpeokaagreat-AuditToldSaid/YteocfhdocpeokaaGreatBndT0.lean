/- The statements' walks, and what they stand on, joined into few texts: part 0. Conditions stand in each statement. -/
import Derived.Maps.AppendAt
import Derived.Laws.CopyOwn
import Derived.Laws.MakeOwn
import Derived.Laws.StructEq
import Derived.Deep.Quiet
import Derived.Below
import Derived.Tactics
import Derived.IntWalk
import Derived.Lib.Overlaps
import Derived.Test.YteocfhdocpeokaaGreatRows
import Derived.OpenShut
import Derived.ChangeSame
import Derived.ProofKit
import Derived.WideKeyArgs
import Derived.Deep.Slices
import Derived.Deep.Fields
import Derived.Laws.Externs
import Derived.Laws.Bits64b
import Derived.Test.YteocfhdocpeokaaGreatChecked
import Derived.KernelRfl
import Derived.ChangeKeysEq
import Derived.Shelf.SlSortCmp.NoneTotal
import Derived.Ground.SlsfProg
import Derived.WalkKit
import Derived.Sort.Grow
import Derived.Lib.Mul64
import Derived.MapKept
set_option maxHeartbeats 16000000
set_option linter.all false
set_option linter.unusedSimpArgs false
set_option linter.unusedVariables false
theorem mcm {α:Type _}{a:α}(y:α){l:List α}(h:a∈l):a∈y::l:=List.mem_cons_of_mem y h
theorem mcs {α:Type _}{a:α}{l:List α}:a∈a::l:=List.mem_cons_self
theorem mar {α:Type _}{b:α}(xs:List α){ys:List α}(h:b∈ys):b∈xs++ys:=List.mem_append_right xs h
theorem odt {p:Prop}[inst:Decidable p](h:decide p=true):p:=of_decide_eq_true h
theorem odf {p:Prop}[inst:Decidable p](h:decide p=false):¬p:=of_decide_eq_false h
theorem nle {n m:Nat}(h:Nat.ble n m=true):n≤m:=Nat.le_of_ble_eq_true h
theorem gsi {α:Type _}{l:List α}{i:Nat}{a:α}:l[i]? =some a↔∃h:i<l.length,l[i]=a:=List.getElem?_eq_some_iff
theorem gge {α:Type _}{l:List α}{i:Nat}(h:i<l.length):l[i]? =some l[i]:=List.getElem?_eq_getElem h
theorem mog {α:Type _}{l:List α}{i:Nat}{a:α}(h:l[i]? =some a):a∈l:=List.mem_of_getElem? h
theorem lla {α:Type _}{l m:List α}:(l++m).length=l.length+m.length:=List.length_append
theorem plr {α:Type _}(l:List α):l.Perm l:=List.Perm.refl l
theorem llm {α β:Type _}{l:List α}(f:α→β):(l.map f).length=l.length:=List.length_map f
theorem llt {α:Type _}{i:Nat}{l:List α}:(l.take i).length=min i l.length:=List.length_take
theorem lms {α:Type _}{a b:α}:a∈[b]↔a=b:=List.mem_singleton
theorem lma {α:Type _}{a:α}{l m:List α}:a∈l++m↔a∈l∨a∈m:=List.mem_append
theorem lmm {α β:Type _}{b:β}{f:α→β}{l:List α}:b∈l.map f↔∃a,a∈l∧f a=b:=List.mem_map
theorem mX {G:Prop}(h:G:=by first|(repeat(first|exact mcs|apply mcm|apply mar))<;>fail):G:=h
theorem sX {G:Prop}(h:G:=by first|(repeat(first|exact sel0|apply selS|apply ziv))<;>fail):G:=h
theorem dX {G:Prop}(h:G:=by first|(repeat(first|exact zbJ|(apply zbr;· (repeat(first|exact sel0|apply selS|apply ziv)))|apply zcp|apply zk6))<;>fail):G:=h
theorem pX {G:Prop}(h:G:=by first|(repeat(first|exact plr _|(apply zmf;· (repeat(first|exact sel0|apply selS|apply ziv)))|(apply zlT;· (repeat(first|exact zlQ|apply zlR|apply zlS)))))<;>fail):G:=h
namespace Go.Sl
open Go Go.RowKit
theorem zao {x y:Int}(h:(x != y)=true):¬x=y:=by simpa using h
theorem zap {x y:Int}(h:(x != y)=false):x=y:=by simpa using h
/-- the address of cell o of a row -/
def adr (A:Option Addr)(o:Nat):Addr:=(A.getD ⟨0,0,none⟩).add o
inductive zah where
 |blk (g:Nat) (t:TypeId) (cs:List Value)
 |own (A:Option Addr) (n c:Nat) (t:TypeId) (k:Nat) (cs:List Value)
 |map (g:Nat) (l:List (Value×Value))
def zah.keys :zah→List Nat
 | .blk g _ _=>[g]
 | .own A _ _ _ _ _=>(A.map (·.block)).toList
 | .map g _=>[g]
def zah.holds (B:Nat)(w:World):zah→Prop
 | .blk g t cs=>B≤g∧w.heap[g]? =some (.cells cs.toArray t (0,0))
 | .own A n c t k cs=>w.ownsRow B t k (.slice A n c) n cs∧∀v∈cs,v.oneCell'=true
 | .map g l=>B≤g∧∃es clock,w.heap[g]? =some (.map es clock)∧es.toList.map (fun e=>(e.key,e.val))=l
structure Rep (W:World)(h:List zah)(w:World):Prop where
 below:Below W.heap.size W w
 holds:∀c∈h,c.holds W.heap.size w
 nodup:(h.flatMap zah.keys).Nodup
section
variable {W w w' : World} {h h' F : List zah} {c c' : zah} {B : Nat}
theorem zeL (c:zah):c.keys.Nodup:=by
 cases c with
 |blk g t cs=>simp[zah.keys]
 |own A n c t k cs=>cases A<;>simp[zah.keys]
 |map g l=>simp[zah.keys]
theorem zcm (hc:c.holds B w):∀g∈c.keys,B≤g∧g<w.heap.size:=by
 cases c with
 |blk g t cs=>
  intro g' hg
  simp only[zah.keys,lms]at hg
  subst hg
  exact⟨hc.1,(Array.getElem?_eq_some_iff.1 hc.2).1⟩
 |own A n c t k cs=>
  intro g hg
  refine hc.1.lt g ?_
  cases A with
  |none=>simp[zah.keys]at hg
  |some a=>simp[zah.keys]at hg;simp[Value.ownBlock,hg]
 |map g l=>
  intro g' hg
  simp only[zah.keys,lms]at hg
  subst hg
  obtain⟨h1,es,clock,h2,_⟩:=hc
  exact⟨h1,(Array.getElem?_eq_some_iff.1 h2).1⟩
theorem zcT {row:Option Nat}(hc:c.holds B w)(hg:w.grownBy w' row)(hne:∀g∈c.keys,some g≠row):c.holds B w':=by
 cases c with
 |blk g t cs=>exact⟨hc.1,(hg.block g (Array.getElem?_eq_some_iff.1 hc.2).1 (hne g (by simp[zah.keys]))).trans hc.2⟩
 |own A n c t k cs=>
  refine⟨hc.1.kept hg ?_,hc.2⟩
  cases A with
  |none=>exact .inl rfl
  |some a=>exact .inr (fun e=>hne a.block (by simp[zah.keys]) e)
 |map g l=>
  obtain⟨h1,es,clock,h2,h3⟩:=hc
  exact⟨h1,es,clock,(hg.block g (Array.getElem?_eq_some_iff.1 h2).1 (hne g (by simp[zah.keys]))).trans h2,h3⟩
theorem Rep.perm (hr:Rep W h w)(hp:h.Perm h'):Rep W h' w:=
 ⟨hr.below,fun c hc=>hr.holds c (hp.mem_iff.2 hc),((hp.flatMap_right zah.keys).nodup_iff).1 hr.nodup⟩
theorem Rep.sub (hr:Rep W h w)(hs:h'.Sublist h):Rep W h' w:=
 ⟨hr.below,fun c hc=>hr.holds c (hs.subset hc),hr.nodup.sublist (by
   clear hr
   induction hs with
   |slnil=>exact List.Sublist.refl _
   |cons a _ ih=>exact ih.trans (by simp[List.flatMap_cons])
   |cons_cons a _ ih=>simp only[List.flatMap_cons];exact(List.Sublist.refl _).append ih)⟩
theorem Rep.drop (hr:Rep W (F++h) w):Rep W h w:=hr.sub (List.sublist_append_right F h)
theorem Rep.tail (hr:Rep W (c::h) w):Rep W h w:=hr.sub (List.sublist_cons_self c h)
theorem zcU (hb:Below W.heap.size W w){row:Option Nat}(hg:w.grownBy w' row)(hrow:∀g,row=some g→W.heap.size≤g):Below W.heap.size W w':=
 hb.grown hg hb.size hrow
/-- One chunk has turned, and new blocks are there. -/
theorem Rep.change {row:Option Nat}(hr:Rep W (c::h) w)(hg:w.grownBy w' row)(hrow:∀g,row=some g→g∈c.keys)
 (hc:c'.holds W.heap.size w') (hk:∀g∈c'.keys,g∈c.keys∨w.heap.size≤g):Rep W (c'::h) w':=by
 have hn:=hr.nodup
 simp only[List.flatMap_cons,List.nodup_append]at hn
 obtain⟨_,hn2,hn3⟩:=hn
 refine⟨zcU hr.below hg (fun g e=>(zcm (hr.holds c (by simp)) g (hrow g e)).1),fun d hd=> ?_,?_⟩
 ·rcases List.mem_cons.1 hd with rfl|hd
  ·exact hc
  ·refine zcT (hr.holds d (by simp[hd])) hg (fun g hgk e=> ?_)
   exact hn3 g (hrow g e.symm) g (List.mem_flatMap.2 ⟨d,hd,hgk⟩) rfl
 ·simp only[List.flatMap_cons,List.nodup_append]
  refine⟨zeL c',hn2,fun g hgc g' hg' e=> ?_⟩
  subst e
  rcases hk g hgc with h1|h1
  ·exact hn3 g h1 g hg' rfl
  ·obtain⟨d,hd,hgd⟩:=List.mem_flatMap.1 hg'
   have:=(zcm (hr.holds d (by simp[hd])) g hgd).2
   omega
/-- A chunk more, in new blocks. -/
theorem Rep.add (hr:Rep W h w)(hg:w.grownBy w' none)(hc:c'.holds W.heap.size w')(hk:∀g∈c'.keys,w.heap.size≤g):Rep W (c'::h) w':=by
 refine⟨zcU hr.below hg (fun g e=>by cases e),fun d hd=> ?_,?_⟩
 ·rcases List.mem_cons.1 hd with rfl|hd
  ·exact hc
  ·exact zcT (hr.holds d hd) hg (fun g _ e=>by cases e)
 ·simp only[List.flatMap_cons,List.nodup_append]
  refine⟨zeL c',hr.nodup,fun g hgc g' hg' e=> ?_⟩
  subst e
  obtain⟨d,hd,hgd⟩:=List.mem_flatMap.1 hg'
  have h1:=(zcm (hr.holds d hd) g hgd).2
  have h2:=hk g hgc
  omega
theorem Rep.grow (hr:Rep W h w)(hg:w.grownBy w' none):Rep W h w':=
 ⟨zcU hr.below hg (fun g e=>by cases e),fun d hd=>zcT (hr.holds d hd) hg (fun g _ e=>by cases e),hr.nodup⟩
theorem zft (w:World)(n:Nat):w.grownBy {w with drawn:=n} none:=⟨rfl,rfl,rfl,Nat.le_refl _,fun _ _ _=>rfl⟩
theorem Rep.drawn (hr:Rep W h w)(n:Nat):Rep W h {w with drawn:=n}:=hr.grow (zft w n)
theorem Rep.start (W:World):Rep W [] W:=⟨Below.refl _ _,(fun _ h=>by cases h),by simp⟩
theorem Rep.alloc_blk (hr:Rep W h w)(t:TypeId)(cs:List Value):Rep W (.blk w.heap.size t cs::h) (w.alloc (.cells cs.toArray t)):=
 hr.add (World.grownBy_alloc w _ none) ⟨hr.below.size,heap_alloc_new w _⟩ (fun g hg=>by simp[zah.keys]at hg;omega)
theorem Rep.alloc_own (hr:Rep W h w)(t:TypeId)(n k:Nat)(cs:List Value)(hl:cs.length=n*k)(hn:n≤maxLen)(h1:∀v∈cs,v.oneCell'=true):
 Rep W (.own (some ⟨w.heap.size,0,none⟩) n n t k cs::h) (w.alloc (.cells cs.toArray t)):=by
 refine hr.add (World.grownBy_alloc w _ none) ⟨⟨hl,.inr ⟨w.heap.size,n,cs.toArray,rfl,hr.below.size,heap_alloc_new w _,Nat.le_refl _,hn,by simpa using hl,?_⟩⟩,h1⟩ (fun g hg=>by simp[zah.keys]at hg;omega)
 rw[←hl];simp
theorem Rep.own_nil (hr:Rep W h w)(t:TypeId)(k:Nat):Rep W (.own none 0 0 t k []::h) w:=
 hr.add (World.grownBy.refl w none) ⟨World.ownsRow_nil _ _ _ _,by simp⟩ (fun g hg=>by simp[zah.keys]at hg)
/-! ### reading -/
theorem Rep.heap_blk (hr:Rep W h w){g:Nat}{t:TypeId}{cs:List Value}(hm:zah.blk g t cs∈h):w.heap[g]? =some (.cells cs.toArray t (0,0)):=(hr.holds _ hm).2
theorem Rep.cell_blk (hr:Rep W h w){g:Nat}{t:TypeId}{cs:List Value}(hm:zah.blk g t cs∈h)(i:Nat):w.cell? ⟨g,i,none⟩=cs[i]? :=by
 rw[cell_of_row w g i _ t (0,0) (hr.heap_blk hm)];simp
/-- what holds of memory, whether or not the list names a block twice -/
structure RepS (W:World)(h:List zah)(w:World):Prop where
 below:Below W.heap.size W w
 holds:∀c∈h,c.holds W.heap.size w
theorem Rep.weak (hr:Rep W h' w)(hs:∀c∈h,c∈h'):RepS W h w:=⟨hr.below,fun c hc=>hr.holds c (hs c hc)⟩
theorem RepS.heap_blk (hr:RepS W h w){g:Nat}{t:TypeId}{cs:List Value}(hm:zah.blk g t cs∈h):w.heap[g]? =some (.cells cs.toArray t (0,0)):=(hr.holds _ hm).2
theorem RepS.cell_blk (hr:RepS W h w){g:Nat}{t:TypeId}{cs:List Value}(hm:zah.blk g t cs∈h)(i:Nat):w.cell? ⟨g,i,none⟩=cs[i]? :=by
 rw[cell_of_row w g i _ t (0,0) (hr.heap_blk hm)];simp
/-- the cells of a row that can be read: of one that the call owns, or of one that came in -/
def zaD (W:World)(h:List zah)(A:Option Addr)(n k:Nat)(cs:List Value):Prop:=
 cs.length=n*k∧(∀v∈cs,v.oneCell'=true)∧∀w,RepS W h w→∀j v,cs[j]? =some v→A.isSome=true∧w.cell? (adr A j)=some v
theorem zaD.len {A n k cs}(hr:zaD W h A n k cs):cs.length=n*k:=hr.1
theorem zaD.mono {A n k cs}(hr:zaD W h A n k cs)(hs:∀c∈h,c∈h'):zaD W h' A n k cs:=
 ⟨hr.1,hr.2.1,fun w hw=>hr.2.2 w ⟨hw.below,fun c hc=>hw.holds c (hs c hc)⟩⟩
theorem zaD.cons {A n k cs}(hr:zaD W h A n k cs):zaD W (c::h) A n k cs:=hr.mono fun _ hc=>List.mem_cons_of_mem _ hc
theorem zaD.none_ {k}:zaD W h none 0 k []:=⟨by simp,by simp,fun w _ j v hj=>by simp at hj⟩
theorem zaD.own {A n c t k cs}(hm:zah.own A n c t k cs∈h)(hl:cs.length=n*k)(h1:∀v∈cs,v.oneCell'=true):zaD W h A n k cs:=by
 refine⟨hl,h1,fun w hw j v hj=> ?_⟩
 have ho:=(hw.holds _ hm).1
 rcases ho.2 with ⟨hv,rfl⟩|⟨g,cap,cur,hv,_,hg,_⟩
 ·have:cs=[]:=List.eq_nil_of_length_eq_zero (by simpa using ho.1)
  subst this;simp at hj
 ·injection hv with hA _ _
  subst hA
  refine⟨rfl,?_⟩
  exact ho.cells (g:=g) rfl j v hj
end
end Go.Sl
set_option linter.unusedSimpArgs false
set_option linter.unusedVariables false
namespace Go.Sl
open Go Go.RowKit
inductive Kd where
 |pure|quiet|alloc|write|look|grow
 deriving DecidableEq
structure Item where
 kd:Kd
 keep:List zah
 o:Oper
 g:Option (Option Tmp×Bool)
def gOk (g:Option (Option Tmp×Bool))(tmps:Array Value):Bool:=
 match g with
 |none=>true
 |some (t,b)=>match t.bind (tmps[·]?)with
  |some (.bool x)=>x==b
  |_=>false
def za5 (kd:Nat→Kd)(kp:List zah)(ops:Array Oper)(i:Nat):Option Item:=
 (ops[i]?).map fun o=>⟨kd i,kp,o,o.guard.map fun jb=>((ops[jb.1]?).bind (·.dst),jb.2)⟩
section
variable {P : Program} {W : World}
def opI (P:Program)(W:World)(it:Item)(K:Act→List zah→Prop)(a:Act)(h:List zah):Prop:=
 if gOk it.g a.tmps=true then
  match it.kd with
  | .pure=>∃v,(∀w,(execOp a.eval it.o).run P w=.ok (.value v) w)∧K (a.put it.o.dst v) h
  | .quiet=>∃v,(∀h',(∀c∈h,c∈h')→∀w,Rep W h' w→it.o.quietAt P a (Rep W h') w v)∧K (a.put it.o.dst v) h
  | .alloc=>∀w,Rep W h w→it.o.wp P a w (fun a' w'=>∃cs,Rep W (cs++h) w'∧K a' (cs++h)) (fun _ _ _=>False)
  | .write=>∀w,Rep W h w→it.o.wp P a w (fun a' w'=>∃h',Rep W h' w'∧K a' h') (fun _ _ _=>False)
  | .look=>∃v,((∀w,(execOp a.eval it.o).run P w=.ok (.value v) w)∨((∀c∈it.keep,c∈h)∧∀h',(∀c∈it.keep,c∈h')→∀w,Rep W h' w→it.o.quietAt P a (Rep W h') w v))∧K (a.put it.o.dst v) h
  | .grow=>∀w,Rep W h w→it.o.wp P a w (fun a' w'=>∃h',(Rep W h' w'∧((∀c∈it.keep,c∈h)→∀c∈it.keep,c∈h'))∧K a' h') (fun _ _ _=>False)
 else K (a.put it.o.dst undef) h
theorem zbw {o:Oper}{a:Act}{w:World}{K K':Act→World→Prop}{Q Q':Exit→Act→World→Prop}(h:∀a w,K a w→K' a w)(hQ:∀e a w,Q e a w→Q' e a w)
 (hh:o.wp P a w K Q):o.wp P a w K' Q':=by
 unfold Oper.wp at*
 generalize (execOp a.eval o).run P w=r at*
 cases r with
 |ok n w'=>
  cases n<;>simp only[Oper.upon]at hh ⊢<;>
   first
    |exact h _ _ hh
    |exact Calls.mono hh (fun e w'' he=>by cases e<;>first|exact h _ _ he|exact hQ _ _ _ he|exact(let ⟨a,w,q⟩:=he;⟨a,w,hQ _ _ _ q⟩))
    |exact Rows.mono hh (fun _ _ he=>h _ _ he)
 |halt x w'=>cases x<;>simp only[Oper.upon]at hh ⊢<;>first|exact hQ _ _ _ hh|exact hh
theorem zc3 {it:Item}{K K':Act→List zah→Prop}{a:Act}{h:List zah}(hK:∀a h,K a h→K' a h)(hh:opI P W it K a h):opI P W it K' a h:=by
 unfold opI at*
 split
 ·rename_i hg
  simp only[hg,if_true]at hh
  split<;>rename_i hk<;>simp only[hk]at hh
  ·exact let ⟨v,h1,h2⟩:=hh;⟨v,h1,hK _ _ h2⟩
  ·exact let ⟨v,h1,h2⟩:=hh;⟨v,h1,hK _ _ h2⟩
  ·exact fun w hw=>zbw (fun a w' h2=>let ⟨cs,h3,h4⟩:=h2;⟨cs,h3,hK _ _ h4⟩) (fun _ _ _ h=>h) (hh w hw)
  ·exact fun w hw=>zbw (fun a w' h2=>let ⟨cs,h3,h4⟩:=h2;⟨cs,h3,hK _ _ h4⟩) (fun _ _ _ h=>h) (hh w hw)
  ·exact let ⟨v,h1,h2⟩:=hh;⟨v,h1,hK _ _ h2⟩
  ·exact fun w hw=>zbw (fun a w' h2=>let ⟨cs,h3,h4⟩:=h2;⟨cs,h3,hK _ _ h4⟩) (fun _ _ _ h=>h) (hh w hw)
 ·rename_i hg
  simp only[hg]at hh
  exact hK _ _ hh
theorem zdV {kd:Nat→Kd}{kp:List zah}{ops:Array Oper}{i:Nat}{it:Item}(hi:za5 kd kp ops i=some it)(tmps:Array Value):
 gOk it.g tmps=Region.wanted it.o (yielded ops tmps):=by
 unfold za5 at hi
 cases ho:ops[i]? with
 |none=>simp[ho]at hi
 |some o=>
  simp only[ho,Option.map_some,Option.some.injEq]at hi
  subst hi
  simp only[gOk,Region.wanted]
  cases o.guard with
  |none=>rfl
  |some jb=>
   obtain⟨j,b⟩:=jb
   simp only[Option.map_some,yielded]
   split<;>rename_i h1
   ·simp only[h1]
    rename_i x
    cases x<;>cases b<;>rfl
   ·split
    ·rename_i h2;exact absurd h2 (h1 _)
    ·rfl
theorem zcd {kd:Nat→Kd}{kp:List zah}{ops:Array Oper}{i:Nat}{it:Item}(hi:za5 kd kp ops i=some it):ops[i]? =some it.o∧it.kd=kd i:=by
 unfold za5 at hi
 cases ho:ops[i]? with
 |none=>simp[ho]at hi
 |some o=>simp only[ho,Option.map_some,Option.some.injEq]at hi;subst hi;exact⟨rfl,rfl⟩
theorem zfu {kd:Nat→Kd}{kp:List zah}{ops:Array Oper}{i:Nat}{it:Item}(hi:za5 kd kp ops i=some it):it.keep=kp:=by
 unfold za5 at hi
 cases ho:ops[i]? with
 |none=>simp[ho]at hi
 |some o=>simp only[ho,Option.map_some,Option.some.injEq]at hi;subst hi;rfl
/-- one operation, in the world -/
theorem zkL {kd:Nat→Kd}{kp:List zah}{ops:Array Oper}{i:Nat}{it:Item}{Q:Exit→Act→World→Prop}{K:Act→List zah→Prop}{a:Act}{h:List zah}{w:World}
 (hi:za5 kd kp ops i=some it) (hw:Rep W h w) (hh:opI P W it K a h):wpOp P ops Q i (fun a' w'=>∃h',Rep W h' w'∧K a' h') a w:=by
 obtain⟨ho,_⟩:=zcd hi
 unfold wpOp opI at*
 rw[zdV hi]at hh
 simp only[ho]
 split
 ·rename_i hg
  simp only[hg,if_true]at hh
  refine .inl ?_
  split at hh<;>rename_i hk
  ·obtain⟨v,h1,h2⟩:=hh
   unfold Oper.wp;rw[h1 w];exact⟨h,hw,h2⟩
  ·obtain⟨v,h1,h2⟩:=hh
   have h3:=h1 h (fun _ hc=>hc) w hw
   unfold Oper.quietAt at h3
   unfold Oper.wp
   generalize (execOp a.eval it.o).run P w=r at*
   cases r with
   |ok n w'=>
    cases n<;>simp only[Oper.quietUpon]at h3<;>simp only[Oper.upon]
    ·obtain⟨rfl,rfl⟩:=h3;exact⟨h,hw,h2⟩
    ·obtain⟨rfl,rfl⟩:=h3;exact⟨h,hw,h2⟩
    ·obtain⟨rfl,hc⟩:=h3
     exact hc.mono fun e w'' ⟨he,hw''⟩=>by subst he;exact⟨h,hw'',h2⟩
   |halt x w'=>simp only[Oper.quietUpon]at h3
  ·exact zbw (fun a w' h2=>let ⟨cs,h3,h4⟩:=h2;⟨cs++h,h3,h4⟩) (fun _ _ _ h=>h.elim) (hh w hw)
  ·exact zbw (fun a w' h2=>h2) (fun _ _ _ h=>h.elim) (hh w hw)
  ·obtain⟨v,h1|⟨hk,h1⟩,h2⟩:=hh
   ·unfold Oper.wp;rw[h1 w];exact⟨h,hw,h2⟩
   ·have h3:=h1 h hk w hw
    unfold Oper.quietAt at h3
    unfold Oper.wp
    generalize (execOp a.eval it.o).run P w=r at*
    cases r with
    |ok n w'=>
     cases n<;>simp only[Oper.quietUpon]at h3<;>simp only[Oper.upon]
     ·obtain⟨rfl,rfl⟩:=h3;exact⟨h,hw,h2⟩
     ·obtain⟨rfl,rfl⟩:=h3;exact⟨h,hw,h2⟩
     ·obtain⟨rfl,hc⟩:=h3
      exact hc.mono fun e w'' ⟨he,hw''⟩=>by subst he;exact⟨h,hw'',h2⟩
    |halt x w'=>simp only[Oper.quietUpon]at h3
  ·exact zbw (fun a w' h2=>let ⟨h',h3,h4⟩:=h2;⟨h',h3.1,h4⟩) (fun _ _ _ h=>h.elim) (hh w hw)
 ·rename_i hg
  simp only[hg]at hh
  exact⟨h,hw,hh⟩
/-- the operations in the order of a list -/
def seqS (P:Program)(W:World)(Q:Act→List zah→Prop):List Item→Act→List zah→Prop
 |[],a,h=>Q a h
 |it::rest,a,h=>opI P W it (seqS P W Q rest) a h
theorem zgZ {kd:Nat→Kd}{kp:List zah}{ops:Array Oper}{Q:Act→List zah→Prop}{Q':Exit→Act→World→Prop}(hQ:∀a h w,Rep W h w→Q a h→Q' .normal a w):
 ∀(l:List Nat) (a:Act) (h:List zah) (w:World),(∀i∈l,i<ops.size)→Rep W h w→seqS P W Q (l.filterMap (za5 kd kp ops)) a h→wpOps P ops Q' l a w
 |[],a,h,w,_,hw,hh=>by simp only[wpOps];exact hQ a h w hw hh
 |i::l,a,h,w,hl,hw,hh=>by
  rw[wpOps_cons]
  have hi:za5 kd kp ops i=some ⟨kd i,kp,ops[i]'(hl i (by simp)),(ops[i]'(hl i (by simp))).guard.map fun jb=>((ops[jb.1]?).bind (·.dst),jb.2)⟩:=by
   unfold za5;rw[Array.getElem?_eq_getElem (hl i (by simp))];rfl
  rw[List.filterMap_cons,hi]at hh
  exact wpOp_mono (fun a' w' ⟨h',hw',hk⟩=>zgZ hQ l a' h' w' (fun j hj=>hl j (by simp[hj])) hw' hk) (zkL hi hw hh)
def ze6 (ops:Array Oper)(kd:Nat→Kd)(kp:List zah):List Item:=(List.range ops.size).filterMap (za5 kd kp ops)
theorem zhq {kd:Nat→Kd}{kp:List zah}{ops:Array Oper}{Q:Act→List zah→Prop}{Q':Exit→Act→World→Prop}(hQ:∀a h w,Rep W h w→Q a h→Q' .normal a w){id:Nat}{a:Act}{h:List zah}{w:World}
 (hw:Rep W h w) (hh:seqS P W Q (ze6 ops kd kp) a h):(Code.region id ops false).wp P Q' a w:=
 wp_region (zgZ hQ _ a h w (fun i hi=>by simpa using hi) hw hh)
/-- whatever order is picked from here on -/
def anyS (P:Program)(W:World)(kd:Nat→Kd)(kp:List zah)(ops:Array Oper)(Q:Act→List zah→Prop):Nat→Array Bool→Act→List zah→Prop
 |0,listed,a,h=>Region.ready .any ops listed=[]∧Q a h
 |n+1,listed,a,h=>(Region.ready .any ops listed=[]→Q a h)∧
   ∀i∈Region.ready .any ops listed,∀it,za5 kd kp ops i=some it→opI P W it (anyS P W kd kp ops Q n (listed.setIfInBounds i true)) a h
theorem zdp {kd:Nat→Kd}{kp:List zah}{ops:Array Oper}{listed:Array Bool}{i:Nat}(h:i∈Region.ready .any ops listed):∃it,za5 kd kp ops i=some it:=by
 obtain⟨_,o,ho,_⟩:=mem_ready.1 h
 exact⟨_,by unfold za5;rw[ho];rfl⟩
theorem zdq {kd:Nat→Kd}{kp:List zah}{ops:Array Oper}{Q:Act→List zah→Prop}{Q':Exit→Act→World→Prop}(hQ:∀a h w,Rep W h w→Q a h→Q' .normal a w):
 ∀(n:Nat) (listed:Array Bool) (a:Act) (h:List zah) (w:World),Rep W h w→anyS P W kd kp ops Q n listed a h→wpAny P .any ops Q' n listed a w
 |0,_,a,h,w,hw,hh=>⟨hh.1,hQ a h w hw hh.2⟩
 |n+1,_,a,h,w,hw,hh=>⟨fun h0=>hQ a h w hw (hh.1 h0),fun i hi=>by
   obtain⟨it,hit⟩:=zdp (kd:=kd) (kp:=kp) hi
   exact wpOp_mono (fun a' w' ⟨h',hw',hk⟩=>zdq hQ n _ a' h' w' hw' hk) (zkL hit hw (hh.2 i hi it hit))⟩
def zb6 (P:Program)(W:World)(it:Item)(v:Value)(a:Act)(h:List zah):Prop:=
 (gOk it.g a.tmps=true∧((it.kd=.pure∧∀w,(execOp a.eval it.o).run P w=.ok (.value v) w)∨
   (it.kd=.quiet∧∀h',(∀c∈h,c∈h')→∀w,Rep W h' w→it.o.quietAt P a (Rep W h') w v)∨
   (it.kd=.look∧((∀w,(execOp a.eval it.o).run P w=.ok (.value v) w)∨((∀c∈it.keep,c∈h)∧∀h',(∀c∈it.keep,c∈h')→∀w,Rep W h' w→it.o.quietAt P a (Rep W h') w v)))))∨
 (gOk it.g a.tmps=false∧v=undef)
theorem zb6.opI {it:Item}{v:Value}{a:Act}{h:List zah}{K:Act→List zah→Prop}(hy:zb6 P W it v a h)(hk:K (a.put it.o.dst v) h):opI P W it K a h:=by
 unfold Sl.opI
 rcases hy with ⟨hg,⟨hkd,hv⟩|⟨hkd,hv⟩|⟨hkd,hv⟩⟩|⟨hg,rfl⟩
 ·simp only[hg,hkd,if_true];exact⟨v,hv,hk⟩
 ·simp only[hg,hkd,if_true];exact⟨v,hv,hk⟩
 ·simp only[hg,hkd,if_true];exact⟨v,hv,hk⟩
 ·simp only[hg,Bool.false_eq_true,if_false];exact hk
theorem zeM {it:Item}{a:Act}{h:List zah}{K:Act→List zah→Prop}(hkd:it.kd=.pure∨it.kd=.quiet∨it.kd=.look)(hh:opI P W it K a h):∃v,zb6 P W it v a h∧K (a.put it.o.dst v) h:=by
 unfold opI at hh
 by_cases hg:gOk it.g a.tmps=true
 ·simp only[hg,if_true]at hh
  rcases hkd with hkd|hkd|hkd<;>simp only[hkd]at hh<;>obtain⟨v,h1,h2⟩:=hh
  ·exact⟨v,.inl ⟨hg,.inl ⟨hkd,h1⟩⟩,h2⟩
  ·exact⟨v,.inl ⟨hg,.inr (.inl ⟨hkd,h1⟩)⟩,h2⟩
  ·exact⟨v,.inl ⟨hg,.inr (.inr ⟨hkd,h1⟩)⟩,h2⟩
 ·simp only[hg]at hh
  exact⟨undef,.inr ⟨by simpa using hg,rfl⟩,hh⟩
/-- what 'it' looks at is the same in both -/
def Same (it:Item)(a a':Act):Prop:=execOp a'.eval it.o=execOp a.eval it.o∧gOk it.g a'.tmps=gOk it.g a.tmps
theorem zb6.same {it:Item}{v:Value}{a a':Act}{h h':List zah}(hy:zb6 P W it v a h)(hs:Same it a a')(hh:it.kd=.pure∨(∀c∈h,c∈h')∨(it.kd=.look∧((∀c∈it.keep,c∈h)→∀c∈it.keep,c∈h'))):zb6 P W it v a' h':=by
 unfold zb6 at*
 rw[hs.2]
 rcases hy with ⟨hg,⟨hkd,hv⟩|⟨hkd,hv⟩|⟨hkd,hv⟩⟩|hy
 ·exact .inl ⟨hg,.inl ⟨hkd,fun w=>by rw[hs.1];exact hv w⟩⟩
 ·refine .inl ⟨hg,.inr (.inl ⟨hkd,fun h2 hsub w hw=> ?_⟩)⟩
  have hh2:∀c∈h,c∈h':=by
   rcases hh with e|e|e
   ·rw[hkd]at e;cases e
   ·exact e
   ·rw[hkd]at e;cases e.1
  have:=hv h2 (fun c hc=>hsub c (hh2 c hc)) w hw
  unfold Oper.quietAt at*
  rwa[hs.1]
 ·refine .inl ⟨hg,.inr (.inr ⟨hkd,?_⟩)⟩
  rcases hv with hv|⟨hk,hv⟩
  ·exact .inl fun w=>by rw[hs.1];exact hv w
  ·refine .inr ⟨?_,fun h2 hsub w hw=> ?_⟩
   ·rcases hh with e|e|e
    ·rw[hkd]at e;cases e
    ·exact fun c hc=>e c (hk c hc)
    ·exact e.2 hk
   ·have:=hv h2 hsub w hw
    unfold Oper.quietAt at*
    rwa[hs.1]
 ·exact .inr hy
variable {kd : Nat → Kd} {kp : List zah} {ops : Array Oper}
theorem zh9 {i j:Nat}{iti itj:Item}(hi:za5 kd kp ops i=some iti)(hj:za5 kd kp ops j=some itj)(hap:iti.o.apart ops itj.o=true)
 (hsel:∀(j:Nat) (o:Oper) cs b,ops[j]? =some o→o.op≠ .select cs b) {v:Value} {a:Act} {w:World} {K:Act→World→Prop}
 (h:itj.o.wp P (a.put iti.o.dst v) w K (fun _ _ _=>False)):
 itj.o.wp P a w (fun a' w'=>Same iti a a'∧K (a'.put iti.o.dst v) w') (fun _ _ _=>False):=by
 obtain⟨h1,h2,h3⟩:=Oper.apart_spec hap
 obtain⟨hoi,_⟩:=zcd hi
 obtain⟨hoj,_⟩:=zcd hj
 have same:∀(b:Act),b.tmps=a.tmps→∀u,Same iti a (b.put itj.o.dst u):=fun b hb u=>by
  have e1:b.eval=a.eval:=by funext x;cases x<;>simp[Act.eval,hb]
  refine⟨?_,?_⟩
  ·rw[execOp_put (ops:=ops) iti.o (fun cs b=>hsel i _ cs b hoi) b itj.o.dst u h3,e1]
  ·rw[zdV hi,zdV hi,wanted_put (ops:=ops) iti.o b itj.o.dst u h3,hb]
 unfold Oper.wp at*
 rw[execOp_put (ops:=ops) itj.o (fun cs b=>hsel j _ cs b hoj) a iti.o.dst v h1]at h
 generalize (execOp a.eval itj.o).run P w=r at*
 cases r with
 |ok n w'=>
  cases n<;>simp only[Oper.upon]at h ⊢
  case value u=>exact⟨same a rfl u,by rw[←Act.put_comm a v u h2];exact h⟩
  case skip=>exact⟨same a rfl _,by rw[←Act.put_comm a v undef h2];exact h⟩
  case defer d=>
   refine⟨same {a with defers:=d::a.defers} rfl _,?_⟩
   rw[←Act.put_comm _ v undef h2,←Act.put_defers]
   exact h
  case enter f args=>
   refine Calls.mono h fun e w'' he=> ?_
   cases e with
   |returned u=>exact⟨same a rfl u,by rw[←Act.put_comm a v u h2];exact he⟩
   |panicked c=>exact he
   |outgrown=>exact he
  case row row args=>exact Rows.mono h fun u w'' he=>⟨same a rfl u,by rw[←Act.put_comm a v u h2];exact he⟩
 |halt x w'=>
  cases x<;>simp only[Oper.upon]at h ⊢
theorem zkV {i j:Nat}{iti itj:Item}(hi:za5 kd kp ops i=some iti)(hj:za5 kd kp ops j=some itj)(hap:iti.o.apart ops itj.o=true)
 (hsel:∀(j:Nat) (o:Oper) cs b,ops[j]? =some o→o.op≠ .select cs b) (hkk:iti.kd=.pure∨(itj.kd≠ .write∧(itj.kd=.grow→iti.kd=.look)))
 {v:Value} {a:Act} {h:List zah} {K:Act→List zah→Prop} (hy:zb6 P W iti v a h) (hh:opI P W itj K (a.put iti.o.dst v) h):
 opI P W itj (fun a' h'=>zb6 P W iti v a' h'∧K (a'.put iti.o.dst v) h') a h:=by
 obtain⟨h1,h2,h3⟩:=Oper.apart_spec hap
 obtain⟨hoi,_⟩:=zcd hi
 obtain⟨hoj,_⟩:=zcd hj
 have same:∀u,Same iti a (a.put itj.o.dst u):=fun u=>
  ⟨execOp_put (ops:=ops) iti.o (fun cs b=>hsel i _ cs b hoi) a itj.o.dst u h3,by rw[zdV hi,zdV hi,wanted_put (ops:=ops) iti.o a itj.o.dst u h3]⟩
 have hex:execOp (a.put iti.o.dst v).eval itj.o=execOp a.eval itj.o:=execOp_put (ops:=ops) itj.o (fun cs b=>hsel j _ cs b hoj) a iti.o.dst v h1
 have hgk:gOk itj.g (a.put iti.o.dst v).tmps=gOk itj.g a.tmps:=by rw[zdV hj,zdV hj,wanted_put (ops:=ops) itj.o a iti.o.dst v h1]
 unfold opI at*
 rw[hgk]at hh
 split
 ·rename_i hg
  simp only[hg,if_true]at hh
  split<;>rename_i hk<;>simp only[hk]at hh
  ·obtain⟨u,hu,hn⟩:=hh
   exact⟨u,fun w=>by rw[←hex];exact hu w,hy.same (same u) (.inr (.inl fun _ hc=>hc)),by rw[←Act.put_comm a v u h2];exact hn⟩
  ·obtain⟨u,hu,hn⟩:=hh
   refine⟨u,fun h' hs w hw=> ?_,hy.same (same u) (.inr (.inl fun _ hc=>hc)),by rw[←Act.put_comm a v u h2];exact hn⟩
   have:=hu h' hs w hw
   unfold Oper.quietAt at*
   rwa[hex]at this
  ·exact fun w hw=>zbw (fun a' w' ⟨hsm,cs,h4,h5⟩=>⟨cs,h4,hy.same hsm (.inr (.inl fun _ hc=>List.mem_append_right _ hc)),h5⟩) (fun _ _ _ h=>h) (zh9 hi hj hap hsel (hh w hw))
  ·have hp:=hkk.resolve_right (fun hne=>hne.1 hk)
   exact fun w hw=>zbw (fun a' w' ⟨hsm,cs,h4,h5⟩=>⟨cs,h4,hy.same hsm (.inl hp),h5⟩) (fun _ _ _ h=>h) (zh9 hi hj hap hsel (hh w hw))
  ·obtain⟨u,hu,hn⟩:=hh
   refine⟨u,?_,hy.same (same u) (.inr (.inl fun _ hc=>hc)),by rw[←Act.put_comm a v u h2];exact hn⟩
   rcases hu with hu|⟨hu1,hu2⟩
   ·exact .inl fun w=>by rw[←hex];exact hu w
   ·refine .inr ⟨hu1,fun h' hs w hw=> ?_⟩
    have:=hu2 h' hs w hw
    unfold Oper.quietAt at*
    rwa[hex]at this
  ·have hke:iti.keep=itj.keep:=by rw[zfu hi,zfu hj]
   refine fun w hw=>zbw (fun a' w' ⟨hsm,h',h4,h5⟩=>⟨h',h4,hy.same hsm ?_,h5⟩) (fun _ _ _ h=>h) (zh9 hi hj hap hsel (hh w hw))
   rcases hkk with hp|⟨_,hp⟩
   ·exact .inl hp
   ·exact .inr (.inr ⟨hp hk,by rw[hke];exact h4.2⟩)
 ·rename_i hg
  simp only[hg]at hh
  exact⟨hy.same (same _) (.inr (.inl fun _ hc=>hc)),by rw[←Act.put_comm a v undef h2];exact hh⟩
theorem zeN {Q:Act→List zah→Prop}{i:Nat}{iti:Item}{v:Value}(hi:za5 kd kp ops i=some iti)(hsel:∀(j:Nat) (o:Oper) cs b,ops[j]? =some o→o.op≠ .select cs b)
 (D:List Nat)(hD:∀j∈D,∀oj,ops[j]? =some oj→∃e∈oj.after,Region.binds .any e=true∧(e.on=i∨e.on∈D)):
 ∀(fuel:Nat) (listed:Array Bool) (a:Act) (h:List zah),
  (∀j oj,ops[j]? =some oj→j≠i→listed.getD j true=false→j∉D→iti.o.apart ops oj=true∧(iti.kd=.pure∨(kd j≠ .write∧(kd j=.grow→iti.kd=.look))))→
  (∀j∈D,listed.getD j true=false)→i∈Region.ready .any ops listed→zb6 P W iti v a h→
  anyS P W kd kp ops Q fuel (listed.setIfInBounds i true) (a.put iti.o.dst v) h→anyS P W kd kp ops Q (fuel+1) listed a h:=by
 intro fuel
 induction fuel with
 |zero=>
  intro listed a h _ _ hr hy H
  refine⟨fun h=>(by rw[h]at hr;cases hr),fun j hj itj hitj=> ?_⟩
  by_cases hji:j=i
  ·subst hji
   obtain rfl:iti=itj:=by rw[hi]at hitj;exact Option.some.inj hitj
   exact hy.opI H
  ·have:=ready_mono hj hji
   rw[H.1]at this
   cases this
 |succ fuel ih=>
  intro listed a h hfree hDl hr hy H
  refine⟨fun h=>(by rw[h]at hr;cases hr),fun j hj itj hitj=> ?_⟩
  by_cases hji:j=i
  ·subst hji
   obtain rfl:iti=itj:=by rw[hi]at hitj;exact Option.some.inj hitj
   exact hy.opI H
  ·have h1:=H.2 j (ready_mono hj hji) itj hitj
   obtain⟨hjun,oj,hoj,hall⟩:=mem_ready.1 hj
   have hoj':itj.o=oj:=by have:=(zcd hitj).1;rw[hoj]at this;exact(Option.some.inj this).symm
   have hun:∀k,listed.getD k true=false→listed.getD k false=true→False:=fun k h0 h1=>by
    rcases Nat.lt_or_ge k listed.size with h'|h'
    ·simp[h']at h0 h1;rw[h0]at h1;cases h1
    ·simp[Array.getElem?_eq_none h']at h1
   have hjD:j∉D:=fun hjD=>by
    obtain⟨e,he,hb,hon⟩:=hD j hjD oj hoj
    have hl:=hall e he hb
    rcases hon with hon|hon
    ·rw[hon]at hl;exact hun i (mem_ready.1 hr).1 hl
    ·exact hun _ (hDl _ hon) hl
   have hap:=hfree j oj hoj hji hjun hjD
   have hkj:itj.kd=kd j:=(zcd hitj).2
   have h2:=zkV hi hitj (by rw[hoj'];exact hap.1) hsel (by rw[hkj];exact hap.2) hy h1
   refine zc3 (fun a' h' h3=>ih (listed.setIfInBounds j true) a' h' ?_ ?_ (ready_mono hr (Ne.symm hji)) h3.1 ?_) h2
   ·intro k ok hk hki hunk hkD
    refine hfree k ok hk hki ?_ hkD
    by_cases hjk:j=k
    ·subst hjk;exact hjun
    ·rw[getD_set_ne true hjk]at hunk;exact hunk
   ·intro k hkD
    have hjk:j≠k:=fun e=>hjD (e▸hkD)
    rw[getD_set_ne true hjk]
    exact hDl k hkD
   ·rw[Array.setIfInBounds_comm _ _ hji]
    exact h3.2
/-! ### the plan: an order that serves for all -/
def desc (ops:Array Oper)(bef:Array Nat)(listed:Array Bool)(i:Nat):List Nat:=
 (List.range ops.size).filter fun j=> !listed.getD j true&&(bef.getD j 0).testBit i
def zeO (kd:Nat→Kd)(ops:Array Oper)(listed:Array Bool)(i:Nat)(D:List Nat):Bool:=
 (Region.ready .any ops listed).contains i&&(kd i== .pure||(kd i== .quiet||kd i== .look))&&
 ((List.range ops.size).all fun j=>j==i||listed.getD j true||D.contains j||(match ops[j]?,ops[i]? with
   |some oj,some oi=>oi.apart ops oj&&(kd i== .pure||(kd j != .write&&(kd j != .grow||kd i== .look)))
   |_,_=>false))&&
 (D.all fun j=> !listed.getD j true&&(match ops[j]? with
   |some oj=>oj.after.any fun e=>Region.binds .any e&&(e.on==i||D.contains e.on)
   |none=>true))
def zdW (kd:Nat→Kd)(ops:Array Oper)(bef:Array Nat):List Nat→Array Bool→Bool
 |[],listed=>Region.ready .any ops listed==[]
 |i::rest,listed=>(Region.ready .any ops listed==[i]||zeO kd ops listed i (desc ops bef listed i))&&zdW kd ops bef rest (listed.setIfInBounds i true)
theorem zdr {Q:Act→List zah→Prop}{bef:Array Nat}(hs:Region.noSelect ops=true):∀(l:List Nat) (listed:Array Bool) (a:Act) (h:List zah),zdW kd ops bef l listed=true→
 seqS P W Q (l.filterMap (za5 kd kp ops)) a h→anyS P W kd kp ops Q l.length listed a h
 |[],listed,a,h,hp,hh=>⟨by simpa [zdW]using hp,hh⟩
 |i::l,listed,a,h,hp,hh=>by
  simp only[zdW,Bool.and_eq_true,Bool.or_eq_true,beq_iff_eq]at hp
  obtain⟨hp1,hp2⟩:=hp
  have hmem:i∈Region.ready .any ops listed:=by
   rcases hp1 with h1|h1
   ·rw[h1];simp
   ·simp only[zeO,Bool.and_eq_true]at h1;simpa using h1.1.1.1
  obtain⟨it,hit⟩:=zdp (kd:=kd) (kp:=kp) hmem
  rw[List.filterMap_cons,hit]at hh
  rcases hp1 with h1|h1
  ·refine⟨fun h0=>(by rw[h0]at h1;cases h1),fun j hj itj hitj=> ?_⟩
   rw[h1]at hj
   obtain rfl:j=i:=by simpa using hj
   obtain rfl:it=itj:=by rw[hit]at hitj;exact Option.some.inj hitj
   exact zc3 (fun a' h' hk=>zdr hs l _ a' h' hp2 hk) hh
  ·simp only[zeO,Bool.and_eq_true,Bool.or_eq_true,beq_iff_eq,List.all_eq_true,List.mem_range]at h1
   obtain⟨⟨⟨hc,hk⟩,hall⟩,hD⟩:=h1
   obtain⟨hoi,hki⟩:=zcd hit
   obtain⟨v,hy,hK⟩:=zeM (by rw[hki];exact hk) hh
   refine zeN hit (Region.noSelect_spec hs) (desc ops bef listed i) ?_ l.length listed a h ?_ ?_ hmem hy (zdr hs l _ _ _ hp2 hK)
   ·intro j hjD oj hoj
    have h2:=(hD j hjD).2
    simp only[hoj]at h2
    obtain⟨e,he,hb⟩:=Array.any_eq_true'.1 h2
    simp only[Bool.and_eq_true,Bool.or_eq_true,beq_iff_eq,List.contains_iff_mem]at hb
    exact⟨e,he,hb.1,hb.2⟩
   ·intro j oj hoj hji hun hjD
    have h2:=hall j (Array.getElem?_eq_some_iff.1 hoj).1
    simp only[hoj,hoi,hun,hji,false_or,Bool.false_eq_true,List.contains_iff_mem,hjD,Bool.and_eq_true,Bool.or_eq_true,beq_iff_eq,bne_iff_ne]at h2
    refine⟨h2.1,?_⟩
    rw[hki]
    rcases h2.2 with e|⟨e1,e2⟩
    ·exact .inl e
    ·exact .inr ⟨e1,fun e3=>e2.resolve_left (fun e4=>e4 e3)⟩
   ·intro j hjD
    simpa using (hD j hjD).1
/-- plans that part where several makings may come first -/
inductive Plan where
 |nil
 |step (i:Nat) (p:Plan)
 |alt (p q:Plan)
def Plan.heads :Plan→List Nat
 | .nil=>[]
 | .step i _=>[i]
 | .alt p q=>p.heads++q.heads
def Plan.ok (kd:Nat→Kd)(ops:Array Oper)(bef:Array Nat):Bool→Plan→Array Bool→Bool
 |false,.nil,listed=>Region.ready .any ops listed==[]
 |true,.nil,_=>false
 |false,.step i p,listed=>(Region.ready .any ops listed==[i]||zeO kd ops listed i (desc ops bef listed i))&&Plan.ok kd ops bef false p (listed.setIfInBounds i true)
 |true,.step i p,listed=>(Region.ready .any ops listed).contains i&&Plan.ok kd ops bef false p (listed.setIfInBounds i true)
 |false,.alt p q,listed=>(Region.ready .any ops listed).all (fun i=>(p.heads++q.heads).contains i)&&(Plan.ok kd ops bef true p listed&&Plan.ok kd ops bef true q listed)&& !(Region.ready .any ops listed==[])
 |true,.alt p q,listed=>Plan.ok kd ops bef true p listed&&Plan.ok kd ops bef true q listed
def Plan.len :Plan→Nat
 | .nil=>0
 | .step _ p=>p.len+1
 | .alt p _=>p.len
def Plan.even :Plan→Bool
 | .nil=>true
 | .step _ p=>p.even
 | .alt p q=>p.even&&q.even&&p.len==q.len
def seqP (P:Program)(W:World)(kd:Nat→Kd)(kp:List zah)(ops:Array Oper)(Q:Act→List zah→Prop):Plan→Act→List zah→Prop
 | .nil,a,h=>Q a h
 | .step i p,a,h=>∀it,za5 kd kp ops i=some it→opI P W it (seqP P W kd kp ops Q p) a h
 | .alt p q,a,h=>seqP P W kd kp ops Q p a h∧seqP P W kd kp ops Q q a h
theorem zce {Q:Act→List zah→Prop}{bef:Array Nat}{i:Nat}:∀(p:Plan) (listed:Array Bool) (a:Act) (h:List zah),Plan.ok kd ops bef true p listed=true→p.even=true→i∈p.heads→seqP P W kd kp ops Q p a h→
 ∃p',Plan.ok kd ops bef false p' (listed.setIfInBounds i true)=true∧p'.even=true∧p'.len+1=p.len∧∀it,za5 kd kp ops i=some it→opI P W it (seqP P W kd kp ops Q p') a h
 | .nil,_,_,_,_,_,hi,_=>by simp[Plan.heads]at hi
 | .step j p,listed,a,h,hok,he,hi,hs=>by
   simp only[Plan.heads,lms]at hi
   subst hi
   simp only[Plan.ok,Bool.and_eq_true]at hok
   exact⟨p,hok.2,he,rfl,hs⟩
 | .alt p q,listed,a,h,hok,he,hi,hs=>by
   simp only[Plan.ok,Bool.and_eq_true]at hok
   simp only[Plan.even,Bool.and_eq_true,beq_iff_eq]at he
   simp only[Plan.heads,lma]at hi
   rcases hi with hi|hi
   ·obtain⟨p',h1,h2,h3,h4⟩:=zce p listed a h hok.1 he.1.1 hi hs.1
    exact⟨p',h1,h2,h3,h4⟩
   ·obtain⟨p',h1,h2,h3,h4⟩:=zce q listed a h hok.2 he.1.2 hi hs.2
    exact⟨p',h1,h2,by simp only[Plan.len];omega,h4⟩
theorem zcy {Q:Act→List zah→Prop}{bef:Array Nat}(hs:Region.noSelect ops=true):∀(n:Nat) (p:Plan) (listed:Array Bool) (a:Act) (h:List zah),p.len=n→Plan.ok kd ops bef false p listed=true→p.even=true→
 seqP P W kd kp ops Q p a h→anyS P W kd kp ops Q n listed a h
 |n,.nil,listed,a,h,hn,hp,_,hh=>by
  simp only[Plan.len]at hn
  subst hn
  exact⟨by simpa [Plan.ok]using hp,hh⟩
 |0,.step i p,listed,a,h,hn,_,_,_=>by simp[Plan.len]at hn
 |n+1,.step i p,listed,a,h,hn,hp,he,hh=>by
  simp only[Plan.len]at hn
  simp only[Plan.ok,Bool.and_eq_true,Bool.or_eq_true,beq_iff_eq]at hp
  obtain⟨hp1,hp2⟩:=hp
  have hmem:i∈Region.ready .any ops listed:=by
   rcases hp1 with h1|h1
   ·rw[h1];simp
   ·simp only[zeO,Bool.and_eq_true]at h1;simpa using h1.1.1.1
  obtain⟨it,hit⟩:=zdp (kd:=kd) (kp:=kp) hmem
  have hh1:=hh it hit
  rcases hp1 with h1|h1
  ·refine⟨fun h0=>(by rw[h0]at h1;cases h1),fun j hj itj hitj=> ?_⟩
   rw[h1]at hj
   obtain rfl:j=i:=by simpa using hj
   obtain rfl:it=itj:=by rw[hit]at hitj;exact Option.some.inj hitj
   exact zc3 (fun a' h' hk=>zcy hs n p _ a' h' (by omega) hp2 he hk) hh1
  ·simp only[zeO,Bool.and_eq_true,Bool.or_eq_true,beq_iff_eq,List.all_eq_true,List.mem_range]at h1
   obtain⟨⟨⟨hc,hk⟩,hall⟩,hD⟩:=h1
   obtain⟨hoi,hki⟩:=zcd hit
   obtain⟨v,hy,hK⟩:=zeM (by rw[hki];exact hk) hh1
   refine zeN hit (Region.noSelect_spec hs) (desc ops bef listed i) ?_ n listed a h ?_ ?_ hmem hy (zcy hs n p _ _ _ (by omega) hp2 he hK)
   ·intro j hjD oj hoj
    have h2:=(hD j hjD).2
    simp only[hoj]at h2
    obtain⟨e,he,hb⟩:=Array.any_eq_true'.1 h2
    simp only[Bool.and_eq_true,Bool.or_eq_true,beq_iff_eq,List.contains_iff_mem]at hb
    exact⟨e,he,hb.1,hb.2⟩
   ·intro j oj hoj hji hun hjD
    have h2:=hall j (Array.getElem?_eq_some_iff.1 hoj).1
    simp only[hoj,hoi,hun,hji,false_or,Bool.false_eq_true,List.contains_iff_mem,hjD,Bool.and_eq_true,Bool.or_eq_true,beq_iff_eq,bne_iff_ne]at h2
    refine⟨h2.1,?_⟩
    rw[hki]
    rcases h2.2 with e|⟨e1,e2⟩
    ·exact .inl e
    ·exact .inr ⟨e1,fun e3=>e2.resolve_left (fun e4=>e4 e3)⟩
   ·intro j hjD
    simpa using (hD j hjD).1
 |0,.alt p q,listed,a,h,hn,hp,he,hh=>by
  simp only[Plan.ok,Bool.and_eq_true,Bool.not_eq_true',beq_eq_false_iff_ne]at hp
  obtain⟨⟨h1,h2,h3⟩,h4⟩:=hp
  cases hr:Region.ready .any ops listed with
  |nil=>exact absurd hr h4
  |cons i l=>
   rw[hr]at h1
   simp only[List.all_cons,Bool.and_eq_true,List.contains_iff_mem]at h1
   simp only[Plan.even,Bool.and_eq_true,beq_iff_eq]at he
   have h5:i∈(Plan.alt p q).heads:=h1.1
   obtain⟨p',_,_,h6,_⟩:=zce (kd:=kd) (ops:=ops) (bef:=bef) (Plan.alt p q) listed a h (by simp only[Plan.ok,Bool.and_eq_true];exact⟨h2,h3⟩) (by simp only[Plan.even,Bool.and_eq_true,beq_iff_eq];exact he) h5 hh
   omega
 |n+1,.alt p q,listed,a,h,hn,hp,he,hh=>by
  simp only[Plan.ok,Bool.and_eq_true,Bool.not_eq_true',beq_eq_false_iff_ne]at hp
  obtain⟨⟨h1,h2,h3⟩,h4⟩:=hp
  refine⟨fun h0=>absurd h0 h4,fun i hi it hit=> ?_⟩
  have h5:i∈(Plan.alt p q).heads:=by
   have:=List.all_eq_true.1 h1 i hi
   simpa [Plan.heads]using this
  obtain⟨p',k1,k2,k3,k4⟩:=zce (kd:=kd) (ops:=ops) (bef:=bef) (Plan.alt p q) listed a h (by simp only[Plan.ok,Bool.and_eq_true];exact⟨h2,h3⟩) he h5 hh
  exact zc3 (fun a' h' hk=>zcy hs n p' _ a' h' (by omega) k1 k2 hk) (k4 it hit)
def zdX (ops:Array Oper)(kd:Nat→Kd)(kp:List zah)(order:List Nat):List Item:=order.filterMap (za5 kd kp ops)
theorem zgk {Q:Act→List zah→Prop}{Q':Exit→Act→World→Prop}(hQ:∀a h w,Rep W h w→Q a h→Q' .normal a w){order:List Nat}{id:Nat}{a:Act}{h:List zah}{w:World}
 (hm:P.follows .mixedOrders=true)
 (hp:(Region.noSelect ops&&(order.length==ops.size&&zdW kd ops (Region.before ops) order (Array.replicate ops.size false)))=true)
 (hw:Rep W h w) (hh:seqS P W Q (zdX ops kd kp order) a h):(Code.region id ops true).wp P Q' a w:=by
 simp only[Bool.and_eq_true,beq_iff_eq]at hp
 refine wp_region_any hm ?_
 rw[←hp.2.1]
 refine zdq (kd:=kd) (kp:=kp) (Q:=Q) hQ _ _ a h _ (hw.drawn _) ?_
 exact zdr hp.1 order _ a h (by rw[hp.2.1];exact hp.2.2) hh
theorem zgl {Q:Act→List zah→Prop}{Q':Exit→Act→World→Prop}(hQ:∀a h w,Rep W h w→Q a h→Q' .normal a w){p:Plan}{id:Nat}{a:Act}{h:List zah}{w:World}
 (hm:P.follows .mixedOrders=true)
 (hp:(Region.noSelect ops&&(p.len==ops.size&&(p.even&&Plan.ok kd ops (Region.before ops) false p (Array.replicate ops.size false))))=true)
 (hw:Rep W h w) (hh:seqP P W kd kp ops Q p a h):(Code.region id ops true).wp P Q' a w:=by
 simp only[Bool.and_eq_true,beq_iff_eq]at hp
 obtain⟨h1,h2,h3,h4⟩:=hp
 refine wp_region_any hm ?_
 refine zdq (kd:=kd) (kp:=kp) (Q:=Q) hQ _ _ a h _ (hw.drawn _) ?_
 exact zcy h1 ops.size p _ a h h2 h4 h3 hh
end
end Go.Sl
set_option linter.unusedSimpArgs false
set_option linter.unusedVariables false
namespace Go.Sl
open Go Go.RowKit
/-- what is known of a type -/
structure TI where
 desc:TypeDesc
 size:Nat
 bytes:Nat
 zero:Value
abbrev Tab :=List (Nat×TI)
def zaE (P:Program)(t:Nat)(ti:TI):Prop:=
 P.underlying t=some ti.desc∧∃i,P.info? t=some i∧i.size=ti.size∧i.bytes=ti.bytes∧i.zero=some ti.zero
def zba (P:Program)(T:Tab):Prop:=∀t ti,T.lookup t=some ti→zaE P t ti
theorem zkW {P:Program}:zba P []:=fun t ti h=>by simp at h
theorem zat {P:Program}{T:Tab}{t:Nat}{ti:TI}(h:zaE P t ti)(hT:zba P T):zba P ((t,ti)::T):=fun u ui hu=>by
 rw[List.lookup_cons]at hu
 split at hu
 ·rename_i he
  obtain rfl:u=t:=by simpa using he
  injection hu with hu
  subst hu
  exact h
 ·exact hT u ui hu
theorem zaG {P:Program}{t:Nat}{d:TypeDesc}{s b:Nat}{z:Value}(h:P.underlying t=some d)(hi:(P.info? t).map (fun i=>(i.size,i.bytes,i.zero))=some (s,b,some z)):zaE P t ⟨d,s,b,z⟩:=by
 cases hq:P.info? t with
 |none=>simp[hq]at hi
 |some i=>
  simp only[hq,Option.map_some,Option.some.injEq,Prod.mk.injEq]at hi
  exact⟨h,i,hq,hi.1,hi.2.1,hi.2.2⟩
abbrev Env :=List (Nat×Value)
structure zbg (N:Nat)(env:Env)(a:Act):Prop where
 size:a.tmps.size=N
 defers:a.defers=[]
 at_:∀t v,env.lookup t=some v→a.tmps[t]? =some v
def Env.put (env:Env)(d:Option Tmp)(v:Value):Env:=match d with
 |some d=>(d,v)::env
 |none=>env
def zlJ (N:Nat)(d:Option Tmp):Bool:=match d with
 |some d=>Nat.blt d N
 |none=>true
theorem zbg.put {N:Nat}{env:Env}{a:Act}{d:Option Tmp}{v:Value}(h:zbg N env a)(hd:zlJ N d=true):zbg N (Env.put env d v) (a.put d v):=by
 cases d with
 |none=>exact h
 |some d=>
  have hlt:d<a.tmps.size:=by rw[h.size];simpa [zlJ]using hd
  refine⟨by simpa [Act.put]using h.size,by simpa [Act.put]using h.defers,fun t u hu=> ?_⟩
  simp only[Env.put]at hu
  rw[List.lookup_cons]at hu
  simp only[Act.put]
  split at hu
  ·rename_i he
   obtain rfl:t=d:=by simpa using he
   injection hu with hu
   subst hu
   simp[hlt]
  ·rename_i he
   have hne:d≠t:=fun e=>by subst e;simp at he
   rw[Array.getElem?_setIfInBounds_ne hne]
   exact h.at_ t u hu
def zaR (env:Env):Operand→Option Value
 | .tmp t=>env.lookup t
 | .const v=>some v
 | .global g=>some (.pointer (some ⟨g,0,none⟩))
 | .func f=>some (.func (.func f) #[] #[])
theorem zbg.eval {N:Nat}{env:Env}{a:Act}(h:zbg N env a){x:Operand}{v:Value}(hx:zaR env x=some v):a.eval x=v:=by
 cases x with
 |tmp t=>have:=h.at_ t v hx;simp[Act.eval,this]
 |const u=>simpa [zaR,Act.eval]using hx
 |global g=>simpa [zaR,Act.eval]using hx
 |func f=>simpa [zaR,Act.eval]using hx
def zcn (env:Env):List Operand→Option (List Value)
 |[]=>some []
 |x::xs=>match zaR env x,zcn env xs with
  |some v,some vs=>some (v::vs)
  |_,_=>none
theorem zbg.evals {N:Nat}{env:Env}{a:Act}(h:zbg N env a):∀{xs:List Operand} {vs:List Value},zcn env xs=some vs→xs.map a.eval=vs
 |[],vs,hx=>by simp[zcn]at hx;simp[hx]
 |x::xs,vs,hx=>by
  unfold zcn at hx
  split at hx
  ·rename_i v us h1 h2
   injection hx with hx
   subst hx
   simp[h.eval h1,h.evals h2]
  ·cases hx
def zco :TypeDesc→Bool
 | .struct _| .array _ _=>true
 |_=>false
def zgm (T:Tab)(t:TypeId)(cs:List Value)(off:Nat):Option Value:=
 match T.lookup t with
 |none=>none
 |some ti=>if zco ti.desc then some (.agg ((cs.drop off).take ti.size).toArray)else cs[off]?
def cmpV (op:BinOp)(x y:Int):Option Value:=
 match op with
 | .eql=>some (.bool (x==y))
 | .neq=>some (.bool (x != y))
 | .lss=>some (.bool (decide (x<y)))
 | .leq=>some (.bool (decide (x≤y)))
 | .gtr=>some (.bool (decide (x>y)))
 | .geq=>some (.bool (decide (x≥y)))
 |_=>none
def zdN (T:Tab)(t:TypeId)(i:Nat):Option (Nat×TypeId):=
 match T.lookup t with
 |some ⟨.struct fs,_,_,_⟩=>(fs.toList[i]?).bind fun f=>match T.lookup f.type with
  |some ti=>if ti.size=0 then none else some (f.offset,f.type)
  |none=>none
 |_=>none
/-- what an operation yields that looks at its operands alone -/
def zdO (T:Tab)(env:Env):Op→Option Value
 | .move x=>zaR env x
 | .assign x=>zaR env x
 | .pick c x y=>match zaR env c with
   |some (.bool true)=>zaR env x
   |some (.bool false)=>zaR env y
   |_=>none
 | .nilCheck x=>match zaR env x with
   |some (.pointer (some ad))=>some (.pointer (some ad))
   |some (.func (.func f) a b)=>some (.func (.func f) a b)
   |_=>none
 | .fieldAddr t x i=>match zdN T t i,zaR env x with
   |some (off,_),some (.pointer (some ad))=>some (.pointer (some (ad.add off)))
   |_,_=>none
 | .field t x i=>match zdN T t i,zaR env x with
   |some (off,ft),some (.agg cs)=>zgm T ft cs.toList off
   |_,_=>none
 | .extract x i=>match zaR env x with
   |some (.tuple vs)=>vs.toList[i]?
   |_=>none
 | .makeFunc fn first captured=>match zcn env first.toList,zcn env captured.toList with
   |some a,some b=>some (.func fn a.toArray b.toArray)
   |_,_=>none
 | .unOp .not _ x=>match zaR env x with
   |some (.bool b)=>some (.bool (!b))
   |_=>none
 | .binOp op t x y _=>match zaR env x,zaR env y with
   |some (.int k a),some (.int k' b)=>if k=k' then(match op with
     | .add| .sub| .mul| .quo| .rem| .and| .or| .xor| .andNot| .shl| .shr=>none
     |_=>cmpV op a b)else none
   |some (.bool a),some (.bool b)=>(match T.lookup t with
    |some ⟨.bool,_,_,_⟩=>(match op with
     | .eql=>some (.bool (a==b))
     | .neq=>some (.bool (!(a==b)))
     |_=>none)
    |_=>none)
   |some (.pointer a),some (.pointer none)=>(match T.lookup t with
    |some ⟨.pointer _,_,_,_⟩=>(match op with
     | .eql=>some (.bool a.isNone)
     | .neq=>some (.bool (!a.isNone))
     |_=>none)
    |_=>none)
   |some (.slice a _ _),some (.slice none _ _)=>(match T.lookup t with
    |some ⟨.slice _,_,_,_⟩=>(match op with
     | .eql=>some (.bool a.isNone)
     | .neq=>some (.bool (!a.isNone))
     |_=>none)
    |_=>none)
   |_,_=>none
 | .call {callee:=.builtin .len,args:=⟨[x]⟩,argTypes:=⟨[t]⟩}=>match T.lookup t,zaR env x with
   |some ⟨.slice _,_,_,_⟩,some (.slice _ n _)=>some (.int .i64 n)
   |_,_=>none
 |_=>none
/-- what an operation on whole numbers yields ahead of its wrap -/
def zb9 (T:Tab)(env:Env):Op→Option (IntKind×Int)
 | .binOp op _ x y _=>match zaR env x,zaR env y with
   |some (.int k a),some (.int k' b)=>if k=k' then(match op with
     | .add=>some (k,a+b)
     | .sub=>some (k,a - b)
     | .mul=>some (k,a*b)
     |_=>none)else none
   |_,_=>none
 | .unOp .neg _ x=>match zaR env x with
   |some (.int k a)=>some (k,0 - a)
   |_=>none
 | .convert s d x=>match T.lookup s,T.lookup d,zaR env x with
   |some ⟨.int _,_,_,_⟩,some ⟨.int k,_,_,_⟩,some (.int _ n)=>some (k,n)
   |_,_,_=>none
 |_=>none
section
variable {P : Program} {W : World} {T : Tab} {N : Nat} {env : Env} {a : Act}
theorem zaE.und {t:Nat}{ti:TI}(h:zaE P t ti):∀w:World,(underlying t).run P w=.ok ti.desc w:=fun w=>run_underlying h.1 w
theorem zaE.sz {t:Nat}{ti:TI}(h:zaE P t ti):∀w:World,(Go.sizeOf t).run P w=.ok ti.size w:=fun w=>by
 obtain⟨_,i,hi,h1,_⟩:=h
 simp[Go.sizeOf,typeInfo,hi,h1]
theorem zaE.zv {t:Nat}{ti:TI}(h:zaE P t ti):∀w:World,(zeroValue t).run P w=.ok ti.zero w:=fun w=>by
 obtain⟨_,i,hi,h1,_,h3⟩:=h
 simp[zeroValue,typeInfo,hi,h3]
theorem zaE.ag {t:Nat}{ti:TI}(h:zaE P t ti):∀w:World,(isAgg t).run P w=.ok (zco ti.desc) w:=fun w=>by
 have:=h.und w
 unfold isAgg
 simp only[Sem.run_bind,this,Result.andThen_ok]
 cases ti.desc<;>rfl
theorem zc4 (hT:zba P T){t:TypeId}{cs:Array Value}{off:Nat}{v:Value}(h:zgm T t cs.toList off=some v)(w:World):(part t cs off).run P w=.ok v w:=by
 unfold zgm at h
 split at h
 ·cases h
 ·rename_i ti ht
  have g:=hT _ _ ht
  unfold part
  simp only[Sem.run_bind,g.ag,Result.andThen_ok]
  split at h
  ·rename_i ha
   injection h with h
   simp only[ha,if_true,Sem.run_bind,g.sz,Result.andThen_ok,Sem.run_pure]
   rw[←h]
   congr 2
   apply Array.ext'
   simp[Array.toList_extract]
  ·rename_i ha
   simp only[ha]
   have:cs[off]? =some v:=by simpa using h
   simp[this]
theorem zc5 {t:TypeId}{i:Nat}{off:Nat}{ft:TypeId}(hT:zba P T)(h:zdN T t i=some (off,ft)):
 ∃fs f,P.underlying t=some (.struct fs)∧fs[i]? =some f∧f.offset=off∧f.type=ft∧∃ti,zaE P ft ti∧ti.size≠0:=by
 unfold zdN at h
 split at h
 ·rename_i fs s b z hl
  have g:=(hT _ _ hl).1
  cases hf:fs.toList[i]? with
  |none=>simp[hf]at h
  |some f=>
   simp only[hf,Option.bind_some]at h
   split at h
   ·rename_i ti hti
    split at h
    ·cases h
    ·rename_i hz
     injection h with h
     injection h with h1 h2
     exact⟨fs,f,g,by simpa using hf,h1,h2,ti,by rw[←h2];exact hT _ _ hti,hz⟩
   ·cases h
 ·cases h
theorem zeP {t:TypeId}(g:P.underlying t=some .bool)(x y:Bool)(w:World):(Op.equal t (.bool x) (.bool y)).run P w=.ok (x==y) w:=by
 show(Op.equalIn (9999+1) t (.bool x) (.bool y)).run P w=_
 rw[Op.equalIn]
 simp only[Sem.run_bind,run_underlying g,Result.andThen_ok,Sem.run_pure]
theorem zfv {t e:TypeId}(g:P.underlying t=some (.pointer e))(x:Option Addr)(w:World):(Op.equal t (.pointer x) (.pointer none)).run P w=.ok x.isNone w:=by
 show(Op.equalIn (9999+1) t (.pointer x) (.pointer none)).run P w=_
 rw[Op.equalIn]
 simp only[Sem.run_bind,run_underlying g,Result.andThen_ok]
 cases x<;>rfl
theorem zdY {t e:TypeId}(g:P.underlying t=some (.slice e))(x:Option Addr)(n c n' c':Nat)(w:World):(Op.equal t (.slice x n c) (.slice none n' c')).run P w=.ok x.isNone w:=by
 show(Op.equalIn (9999+1) t (.slice x n c) (.slice none n' c')).run P w=_
 rw[Op.equalIn]
 simp only[Sem.run_bind,run_underlying g,Result.andThen_ok]
 cases x<;>rfl
theorem zia {dst ty pos af g}{t:TypeId}{x y:Operand}{yt:TypeId}{u v:Value}{b:Bool}{w:World}(hx:a.eval x=u)(hy:a.eval y=v)
 (hg:∀w,(eqGuard .eql t x y u v).run P w=.ok () w)(hb:binOp .eql t u v=(do pure (.bool (←Op.equal t u v))))(he:(Op.equal t u v).run P w=.ok b w):
 (execOp a.eval ⟨dst,.binOp .eql t x y yt,ty,pos,af,g⟩).run P w=.ok (.value (.bool b)) w:=by
 simp only[execOp,hx,hy,Sem.run_bind,hg,Result.andThen_ok,hb,he,Sem.run_pure]
theorem zib {dst ty pos af g}{t:TypeId}{x y:Operand}{yt:TypeId}{u v:Value}{b:Bool}{w:World}(hx:a.eval x=u)(hy:a.eval y=v)
 (hg:∀w,(eqGuard .neq t x y u v).run P w=.ok () w)(hb:binOp .neq t u v=(do pure (.bool (!(←Op.equal t u v)))))(he:(Op.equal t u v).run P w=.ok b w):
 (execOp a.eval ⟨dst,.binOp .neq t x y yt,ty,pos,af,g⟩).run P w=.ok (.value (.bool (!b))) w:=by
 simp only[execOp,hx,hy,Sem.run_bind,hg,Result.andThen_ok,hb,he,Sem.run_pure]
set_option linter.unusedSimpArgs false in
theorem zfw (hT:zba P T)(ha:zbg N env a){o:Oper}{v:Value}(h:zdO T env o.op=some v)(w:World):
 (execOp a.eval o).run P w=.ok (.value v) w:=by
 obtain⟨dst,op,ty,pos,af,g⟩:=o
 simp only at h
 unfold zdO at h
 split at h
 ·simp[execOp,ha.eval h]
 ·simp[execOp,ha.eval h]
 ·split at h
  ·rename_i h1;simp[execOp,ha.eval h1,ha.eval h,asBool]
  ·rename_i h1;simp[execOp,ha.eval h1,ha.eval h,asBool]
  ·cases h
 ·split at h
  ·rename_i h1;injection h with h;subst h;simp[execOp,ha.eval h1]
  ·rename_i h1;injection h with h;subst h;simp[execOp,ha.eval h1]
  ·cases h
 ·split at h
  ·rename_i off ft ad h1 h2
   injection h with h
   obtain⟨fs,f,hu,hf,ho,hft,ti,hg,hz⟩:=zc5 hT h1
   subst ho hft
   simp[execOp,ha.eval h2,Instr.fieldAt,run_underlying hu,hf,Instr.sureAddr,fieldPlace,hg.sz,hz,h]
  ·cases h
 ·split at h
  ·rename_i off ft cs h1 h2
   obtain⟨fs,f,hu,hf,ho,hft,ti,hg,hz⟩:=zc5 hT h1
   subst ho hft
   have hp:=zc4 hT h w
   simp[execOp,ha.eval h2,Instr.field,run_underlying hu,hf,asAgg,hp]
  ·cases h
 ·split at h
  ·rename_i vs h1
   have:vs[‹Nat›]? =some v:=by simpa using h
   simp[execOp,ha.eval h1,Instr.extract,this]
  ·cases h
 ·split at h
  ·rename_i fs cs h1 h2
   injection h with h
   have e1:=ha.evals h1
   have e2:=ha.evals h2
   have e3:∀l:Array Operand,Array.map a.eval l=(List.map a.eval l.toList).toArray:=fun l=>by apply Array.ext';simp
   simp only[execOp,Instr.makeFunc,←h,←e1,←e2,←e3]
   simp
  ·cases h
 ·split at h
  ·rename_i h1;injection h with h;simp[execOp,ha.eval h1,Op.unary,h]
  ·cases h
 ·split at h
  ·rename_i k m k' n h1 h2
   split at h
   ·rename_i hk
    subst hk
    split at h<;>first
     |(cases h;done)
     |(unfold cmpV at h
       split at h<;>first
        |(cases h;done)
        |(injection h with h;simp[execOp,ha.eval h1,ha.eval h2,eqGuard,binOp,Op.intCmp,←h]))
   ·cases h
  ·rename_i m n h1 h2
   split at h
   ·rename_i hl
    have g:=(hT _ _ hl).1
    split at h
    ·injection h with h;subst h;exact zia (ha.eval h1) (ha.eval h2) (fun _=>by rfl) rfl (zeP g _ _ w)
    ·injection h with h;subst h;exact zib (ha.eval h1) (ha.eval h2) (fun _=>by rfl) rfl (zeP g _ _ w)
    ·cases h
   ·cases h
  ·rename_i ad h1 h2
   split at h
   ·rename_i hl
    have g:=(hT _ _ hl).1
    split at h
    ·injection h with h;subst h;exact zia (ha.eval h1) (ha.eval h2) (fun _=>by rfl) rfl (zfv g _ w)
    ·injection h with h;subst h;exact zib (ha.eval h1) (ha.eval h2) (fun _=>by rfl) rfl (zfv g _ w)
    ·cases h
   ·cases h
  ·rename_i ad _ _ _ _ h1 h2
   split at h
   ·rename_i hl
    have g:=(hT _ _ hl).1
    split at h
    ·injection h with h;subst h;exact zia (ha.eval h1) (ha.eval h2) (fun _=>by rfl) rfl (zdY g _ _ _ _ _ w)
    ·injection h with h;subst h;exact zib (ha.eval h1) (ha.eval h2) (fun _=>by rfl) rfl (zdY g _ _ _ _ _ w)
    ·cases h
   ·cases h
  ·cases h
 ·split at h
  ·rename_i h1 h2
   have g:=(hT _ _ h1).1
   injection h with h
   simp[execOp,resolve,invoke,builtin,Builtin.len_,ha.eval h2,run_underlying g,goInt,←h]
  ·cases h
 ·cases h
set_option linter.unusedSimpArgs false in
theorem zbK (hT:zba P T)(ha:zbg N env a){o:Oper}{k:IntKind}{e:Int}(h:zb9 T env o.op=some (k,e))(w:World):
 (execOp a.eval o).run P w=.ok (.value (.int k (k.wrap e))) w:=by
 obtain⟨dst,op,ty,pos,af,g⟩:=o
 simp only at h
 unfold zb9 at h
 split at h
 ·split at h
  ·rename_i k1 m k' n h1 h2
   split at h
   ·rename_i hk
    subst hk
    split at h<;>first
     |(cases h;done)
     |(injection h with h;injection h with h3 h4;subst h3 h4;simp[execOp,ha.eval h1,ha.eval h2,eqGuard,binOp,Op.intArith])
   ·cases h
  ·cases h
 ·split at h
  ·rename_i h1
   injection h with h;injection h with h3 h4;subst h3 h4
   simp[execOp,ha.eval h1,Op.unary,Op.intArith]
  ·cases h
 ·split at h
  ·rename_i h0 h1 h2
   injection h with h;injection h with h3 h4;subst h3 h4
   have g0:=(hT _ _ h0).1
   have g1:=(hT _ _ h1).1
   simp[execOp,ha.eval h2,convert,run_underlying g0,run_underlying g1,Conv.intToInt]
  ·cases h
 ·cases h
end
end Go.Sl
set_option linter.unusedSimpArgs false
set_option linter.unusedVariables false
namespace Go.Sl
open Go Go.RowKit
/-- the kinds of a region's operations, and what is not turned meanwhile -/
structure KF where
 kd:Oper→Kd
 keep:List zah
instance :CoeFun KF (fun _=>Oper→Kd):=⟨KF.kd⟩
def kfN :KF:=⟨fun _=>.write,[]⟩
def Kd.np :Kd→Bool
 | .pure=>false
 | .look=>false
 |_=>true
def Kd.al :Kd→Bool
 | .alloc=>true
 | .write=>true
 | .grow=>true
 |_=>false
def Kd.lk :Kd→Bool
 | .look=>true
 |_=>false
def Kd.wr :Kd→Bool
 | .write=>true
 |_=>false
theorem zlK {k:Kd}(h:k.np=true):k≠ .pure∧k≠ .look:=by cases k<;>simp_all [Kd.np]
theorem zic {k:Kd}(h:k.al=true):k=.alloc∨k=.write∨k=.grow:=by cases k<;>simp_all [Kd.al]
theorem zhr {k:Kd}(h:k.wr=true):k=.write:=by cases k<;>simp_all [Kd.wr]
/-- the kinds: 'q' the functions that only read, 'al' those that only make -/
def kfDk (q al:List FuncId)(o:Oper):Kd:=
 match o.op with
 | .load .. =>.quiet
 | .box .. | .alloc .. | .buildSlice .. | .makeSlice .. =>.alloc
 | .store .. | .mapUpdate .. | .mapEntry .. | .entryStore .. | .insert .. | .makeMap .. | .lookup .. =>.write
 | .call {callee:=.value (.func f),.. }=>if q.contains f then .quiet else if al.contains f then .alloc else .write
 | .call {callee:=.builtin b,.. }=>(match b with
   | .len| .min| .max| .cap=>.pure
   |_=>.write)
 | .call _=>.write
 |_=>.pure
def kfD (q al:List FuncId):KF:=⟨kfDk q al,[]⟩
def za9 (kf:KF)(ops:Array Oper)(o:Oper):Item:=⟨kf.kd o,kf.keep,o,o.guard.map fun jb=>((ops[jb.1]?).bind (·.dst),jb.2)⟩
def zbi (ops:Array Oper)(env:Env)(g:Option (Nat×Bool)):Option Bool:=
 match g with
 |none=>some true
 |some (j,b)=>match (ops.toList[j]?).bind (·.dst)with
  |none=>some false
  |some t=>match env.lookup t with
   |some (.bool x)=>some (x==b)
   |some _=>some false
   |none=>none
/-- the bool that a guard asks -/
def zlL (ops:Array Oper)(env:Env)(g:Option (Nat×Bool)):Option Bool:=
 match g with
 |none=>none
 |some (j,_)=>match (ops.toList[j]?).bind (·.dst)with
  |none=>none
  |some t=>match env.lookup t with
   |some (.bool x)=>some x
   |_=>none
section
variable {P : Program} {W : World} {T : Tab} {N : Nat} {env : Env} {h h' : List zah} {kf : KF} {ops : Array Oper} {K : Env → List zah → Prop} {o : Oper} {rest : List Oper}
theorem zbc {a:Act}{b:Bool}(ha:zbg N env a)(hg:zbi ops env o.guard=some b):gOk (za9 kf ops o).g a.tmps=b:=by
 unfold zbi at hg
 unfold za9 gOk
 cases hq:o.guard with
 |none=>simp[hq]at hg ⊢;exact hg
 |some jb=>
  obtain⟨j,c⟩:=jb
  simp only[hq,Option.map_some]at hg ⊢
  have e:(ops.toList[j]?).bind (·.dst)=(ops[j]?).bind (·.dst):=by simp
  rw[e]at hg
  split at hg
  ·rename_i h1
   injection hg with hg
   simp[h1,hg]
  ·rename_i t h1
   split at hg
   ·rename_i x h2
    injection hg with hg
    have:=ha.at_ t _ h2
    simp only[h1,Option.bind_some,this,hg]
   ·rename_i x hx h2
    injection hg with hg
    have:=ha.at_ t _ h2
    subst hg
    simp only[h1,Option.bind_some,this]
    cases x<;>first|rfl|(rename_i y;exact(hx y rfl).elim)
   ·cases hg
/-- a region's operations, walked in the order of a list -/
def ES (P:Program)(W:World)(N:Nat)(kf:KF)(ops:Array Oper)(l:List Oper)(env:Env)(h:List zah)(K:Env→List zah→Prop):Prop:=
 ∀a,zbg N env a→seqS P W (fun a' h'=>∃env',K env' h'∧zbg N env' a') (l.map (za9 kf ops)) a h
theorem zaw (hK:K env h):ES P W N kf ops [] env h K:=fun _ ha=>⟨env,hK,ha⟩
theorem zgn {it:Item}{a:Act}{v:Value}{K:Act→List zah→Prop}(hg:gOk it.g a.tmps=true)(hv:∀w,(execOp a.eval it.o).run P w=.ok (.value v) w)(hk:K (a.put it.o.dst v) h):opI P W it K a h:=by
 unfold opI
 simp only[hg,if_true]
 split
 ·exact⟨v,hv,hk⟩
 ·exact⟨v,fun h' _ w _=>by unfold Oper.quietAt;rw[hv];exact⟨rfl,rfl⟩,hk⟩
 ·exact fun w hw=>by unfold Oper.wp;rw[hv];exact⟨[],hw,hk⟩
 ·exact fun w hw=>by unfold Oper.wp;rw[hv];exact⟨h,hw,hk⟩
 ·exact⟨v,.inl hv,hk⟩
 ·exact fun w hw=>by unfold Oper.wp;rw[hv];exact⟨h,⟨hw,fun e=>e⟩,hk⟩
theorem zdA {it:Item}{a:Act}{v:Value}{K:Act→List zah→Prop}(hg:gOk it.g a.tmps=true)(hkd:it.kd≠ .pure∧it.kd≠ .look)
 (hv:∀h',(∀c∈h,c∈h')→∀w,Rep W h' w→it.o.quietAt P a (Rep W h') w v) (hk:K (a.put it.o.dst v) h):opI P W it K a h:=by
 have key:∀(K':Act→World→Prop),(∀w,Rep W h w→K' (a.put it.o.dst v) w)→∀w,Rep W h w→it.o.wp P a w K' (fun _ _ _=>False):=fun K' hK' w hw=>by
  have h3:=hv h (fun _ hc=>hc) w hw
  unfold Oper.quietAt at h3
  unfold Oper.wp
  generalize (execOp a.eval it.o).run P w=r at*
  cases r with
  |ok n w'=>
   cases n<;>simp only[Oper.quietUpon]at h3<;>simp only[Oper.upon]
   ·obtain⟨rfl,rfl⟩:=h3;exact hK' _ hw
   ·obtain⟨rfl,rfl⟩:=h3;exact hK' _ hw
   ·obtain⟨rfl,hc⟩:=h3
    exact hc.mono fun e w'' ⟨he,hw''⟩=>by subst he;exact hK' _ hw''
  |halt x w'=>simp only[Oper.quietUpon]at h3
 unfold opI
 simp only[hg,if_true]
 split
 ·rename_i hp;exact absurd hp hkd.1
 ·exact⟨v,hv,hk⟩
 ·exact key _ fun w hw=>⟨[],hw,hk⟩
 ·exact key _ fun w hw=>⟨h,hw,hk⟩
 ·rename_i hp;exact absurd hp hkd.2
 ·exact key _ fun w hw=>⟨h,⟨hw,fun e=>e⟩,hk⟩
theorem zbE {it:Item}{a:Act}{K:Act→List zah→Prop}(hg:gOk it.g a.tmps=true)(hkd:it.kd=.alloc∨it.kd=.write∨it.kd=.grow)
 (hv:∀w,Rep W h w→it.o.wp P a w (fun a' w'=>∃cs,Rep W (cs++h) w'∧K a' (cs++h)) (fun _ _ _=>False)):opI P W it K a h:=by
 unfold opI
 simp only[hg,if_true]
 rcases hkd with hk|hk|hk<;>simp only[hk]
 ·exact hv
 ·exact fun w hw=>zbw (fun a w' ⟨cs,h3,h4⟩=>⟨cs++h,h3,h4⟩) (fun _ _ _ h=>h) (hv w hw)
 ·exact fun w hw=>zbw (fun a w' ⟨cs,h3,h4⟩=>⟨cs++h,⟨h3,fun e c hc=>List.mem_append_right _ (e c hc)⟩,h4⟩) (fun _ _ _ h=>h) (hv w hw)
theorem zbs {it:Item}{a:Act}{K:Act→List zah→Prop}(hg:gOk it.g a.tmps=true)(hkd:it.kd=.write)
 (hv:∀w,Rep W h w→it.o.wp P a w (fun a' w'=>∃h',Rep W h' w'∧K a' h') (fun _ _ _=>False)):opI P W it K a h:=by
 unfold opI
 simp only[hg,if_true,hkd]
 exact hv
/-- the guard says no -/
theorem zaj {b:Bool}{d:Tmp}{op ty pos af g}(hg:zbi ops env g=some b)(hb:b=false)(hd:Nat.blt d N=true)(hK:ES P W N kf ops rest ((d,undef)::env) h K):ES P W N kf ops (⟨some d,op,ty,pos,af,g⟩::rest) env h K:=fun a ha=>by
 subst hb
 show opI P W (za9 kf ops ⟨some d,op,ty,pos,af,g⟩) _ a h
 unfold opI
 rw[zbc (kf:=kf) (o:=⟨some d,op,ty,pos,af,g⟩) ha hg]
 exact hK _ (ha.put (d:=some d) hd)
theorem zad {b:Bool}{op ty pos af g}(hg:zbi ops env g=some b)(hb:b=false)(hK:ES P W N kf ops rest env h K):ES P W N kf ops (⟨none,op,ty,pos,af,g⟩::rest) env h K:=fun a ha=>by
 subst hb
 show opI P W (za9 kf ops ⟨none,op,ty,pos,af,g⟩) _ a h
 unfold opI
 rw[zbc (kf:=kf) (o:=⟨none,op,ty,pos,af,g⟩) ha hg]
 exact hK _ ha
/-- the guard is not yet decided -/
theorem zak {dst op ty pos af g}{x:Bool}(_hg:zlL ops env g=some x)(h1:x=true→ES P W N kf ops (⟨dst,op,ty,pos,af,g⟩::rest) env h K)(h0:x=false→ES P W N kf ops (⟨dst,op,ty,pos,af,g⟩::rest) env h K):ES P W N kf ops (⟨dst,op,ty,pos,af,g⟩::rest) env h K:=by
 cases x
 ·exact h0 rfl
 ·exact h1 rfl
theorem zbI {b:Bool}{v:Value}{d:Tmp}{op ty pos af g}(hg:zbi ops env g=some b)(hb:b=true)(hd:Nat.blt d N=true)
 (hv:∀a,zbg N env a→∀w,(execOp a.eval ⟨some d,op,ty,pos,af,g⟩).run P w=.ok (.value v) w)
 (hK:ES P W N kf ops rest ((d,v)::env) h K):ES P W N kf ops (⟨some d,op,ty,pos,af,g⟩::rest) env h K:=fun a ha=>by
 subst hb
 exact zgn (it:=za9 kf ops ⟨some d,op,ty,pos,af,g⟩) (zbc ha hg) (hv a ha) (hK _ (ha.put (d:=some d) hd))
theorem zai (hT:zba P T){b:Bool}{v:Value}{d:Tmp}{op ty pos af g}(hg:zbi ops env g=some b)(hb:b=true)(hd:Nat.blt d N=true)(hv:zdO T env op=some v)
 (hK:ES P W N kf ops rest ((d,v)::env) h K):ES P W N kf ops (⟨some d,op,ty,pos,af,g⟩::rest) env h K:=
 zbI hg hb hd (fun _ ha w=>zfw hT ha hv w) hK
theorem zg0 (hT:zba P T){b:Bool}{k:IntKind}{e:Int}{d:Tmp}{op ty pos af g}(hg:zbi ops env g=some b)(hb:b=true)(hd:Nat.blt d N=true)(hv:zb9 T env op=some (k,e))
 (hK:ES P W N kf ops rest ((d,.int k (k.wrap e))::env) h K):ES P W N kf ops (⟨some d,op,ty,pos,af,g⟩::rest) env h K:=
 zbI hg hb hd (fun _ ha w=>zbK hT ha hv w) hK
theorem zax (hT:zba P T){b:Bool}{e:Int}{d:Tmp}{op ty pos af g}(hg:zbi ops env g=some b)(hb:b=true)(hd:Nat.blt d N=true)(hv:zb9 T env op=some (.i64,e))
 (h1: -9223372036854775808≤e) (h2:e≤9223372036854775807)
 (hK:ES P W N kf ops rest ((d,.int .i64 e)::env) h K):ES P W N kf ops (⟨some d,op,ty,pos,af,g⟩::rest) env h K:=
 zbI hg hb hd (fun _ ha w=>by rw[zbK hT ha hv w,IntWalk.i64_in e ⟨h1,h2⟩]) hK
/-! ### pick, with its bool known beside -/
/-! ### loads -/
def Ld (P:Program)(W:World)(h:List zah)(t:TypeId)(ad:Addr)(v:Value):Prop:=∀w,RepS W h w→(Instr.loadAt t (.pointer (some ad))).run P w=.ok v w
theorem zab {b:Bool}{d:Tmp}{ty pos af g}{t:TypeId}{x:Operand}{ad:Addr}{v:Value}(hg:zbi ops env g=some b)(hb:b=true)(hd:Nat.blt d N=true)(hk:(kf ⟨some d,.load t x,ty,pos,af,g⟩).np=true)
 (hx:zaR env x=some (.pointer (some ad))) (hl:Ld P W h t ad v)
 (hK:ES P W N kf ops rest ((d,v)::env) h K):ES P W N kf ops (⟨some d,.load t x,ty,pos,af,g⟩::rest) env h K:=fun a ha=>by
 subst hb
 refine zdA (it:=za9 kf ops ⟨some d,.load t x,ty,pos,af,g⟩) (v:=v) (zbc ha hg) (zlK hk) (fun h' hs w hw=> ?_) (hK _ (ha.put (d:=some d) hd))
 have:=hl w (hw.weak hs)
 unfold Oper.quietAt
 simp only[za9,execOp,ha.eval hx,Sem.run_bind,this,Result.andThen_ok,Sem.run_pure]
 exact⟨rfl,rfl⟩
theorem zcN (hT:zba P T){t:TypeId}{ti:TI}(ht:T.lookup t=some ti)(hag:zco ti.desc=true){ad:Addr}{w:World}{cs:List Value}(hl:cs.length=ti.size)
 (hc:∀j v,cs[j]? =some v→w.cell? (ad.add j)=some v):(Instr.loadAt t (.pointer (some ad))).run P w=.ok (.agg cs.toArray) w:=by
 have g:=hT _ _ ht
 have:=run_loadCells_list (P:=P) w ad cs hc
 simp only[Instr.loadAt,Instr.sureAddr,loadVar,Sem.run_bind,Sem.run_pure,Result.andThen_ok,g.ag,hag,if_true,g.sz,←hl,this]
theorem zcO (hT:zba P T){t:TypeId}{ti:TI}(ht:T.lookup t=some ti)(hag:zco ti.desc=false){ad:Addr}{w:World}{v:Value}
 (hc:w.cell? ad=some v):(Instr.loadAt t (.pointer (some ad))).run P w=.ok v w:=by
 have g:=hT _ _ ht
 simp[Instr.loadAt,Instr.sureAddr,loadVar,g.ag,hag,hc]
theorem ze7 (g off n:Nat):(⟨g,off,none⟩:Addr).add n=⟨g,off+n,none⟩:=by unfold Addr.add;split<;>simp_all
theorem zbq (A:Option Addr)(o f:Nat):(adr A o).add f=adr A (o+f):=by
 unfold adr Addr.add
 by_cases h1:o=0<;>by_cases h2:f=0<;>simp[h1,h2,Nat.add_assoc]
theorem zas (hT:zba P T){t:TypeId}{ti:TI}{ad:Addr}{tt:TypeId}{cs:List Value}{v:Value}(ht:T.lookup t=some ti)(hag:zco ti.desc=false)
 (hm:zah.blk ad.block tt cs∈h) (hs:ad.spot=none) (hv:cs[ad.off]? =some v):Ld P W h t ad v:=fun w hw=>
 zcO hT ht hag (by have:=hw.cell_blk hm ad.off;obtain⟨b,off,s⟩:=ad;simp only at hs;subst hs;rw[this,hv])
/-- the whole block -/
theorem zaq (hT:zba P T){t:TypeId}{ti:TI}{g:Nat}{tt:TypeId}{cs:List Value}(ht:T.lookup t=some ti)(hag:zco ti.desc=true)
 (hm:zah.blk g tt cs∈h) (hl:cs.length=ti.size):Ld P W h t ⟨g,0,none⟩ (.agg cs.toArray):=fun w hw=>
 zcN hT ht hag hl (fun j v hj=>by rw[ze7,hw.cell_blk hm,Nat.zero_add];exact hj)
theorem zbd (hT:zba P T){t:TypeId}{ti:TI}{ad:Addr}{A:Option Addr}{n k o:Nat}{cs:List Value}{v:Value}(ht:T.lookup t=some ti)(hag:zco ti.desc=false)
 (hr:zaD W h A n k cs) (had:ad=adr A o) (hv:cs[o]? =some v):Ld P W h t ad v:=fun w hw=>
 zcO hT ht hag (by rw[had];exact(hr.2.2 w hw o v hv).2)
theorem zid (hT:zba P T){t:TypeId}{ti:TI}{ad:Addr}{A:Option Addr}{n k o:Nat}{cs vs:List Value}(ht:T.lookup t=some ti)(hag:zco ti.desc=true)
 (hr:zaD W h A n k cs) (had:ad=adr A o) (hl:vs.length=ti.size) (hv:∀j v,vs[j]? =some v→cs[o+j]? =some v):Ld P W h t ad (.agg vs.toArray):=fun w hw=>
 zcN hT ht hag hl (fun j v hj=>by rw[had,zbq];exact(hr.2.2 w hw _ v (hv j v hj)).2)
/-! ### cells of a row of things of one shape -/
theorem zcz {α:Type}{enc:α→List Value}{k:Nat}(hk:∀x,(enc x).length=k):∀l:List α,(l.flatMap enc).length=l.length*k
 |[]=>by simp
 |x::l=>by simp[zcz hk l,hk,Nat.add_mul,Nat.add_comm]
theorem zdZ {α:Type}{enc:α→List Value}{k:Nat}(hk:∀x,(enc x).length=k):∀(l:List α) (i f:Nat) (x:α),l[i]? =some x→f<k→(l.flatMap enc)[i*k+f]? =(enc x)[f]?
 |[],i,f,x,h,_=>by simp at h
 |y::l,0,f,x,h,hf=>by
  simp at h;subst h
  simp only[List.flatMap_cons,Nat.zero_mul,Nat.zero_add]
  rw[List.getElem?_append_left (by rw[hk];exact hf)]
 |y::l,i+1,f,x,h,hf=>by
  simp only[List.flatMap_cons]
  rw[List.getElem?_append_right (by rw[hk,Nat.add_mul];omega)]
  rw[show(i+1)*k+f - (enc y).length=i*k+f from by rw[hk,Nat.add_mul];omega]
  exact zdZ hk l i f x (by simpa using h) hf
theorem zc6 (hT:zba P T){α:Type}{enc:α→List Value}{t:TypeId}{ti:TI}{ad:Addr}{A:Option Addr}{n k i f:Nat}{l:List α}{x:α}{v:Value}(ht:T.lookup t=some ti)(hag:zco ti.desc=false)
 (hr:zaD W h A n k (l.flatMap enc)) (hk:∀x,(enc x).length=k) (had:ad=adr A (i*k+f)) (hx:l[i]? =some x) (hf:f<k) (hv:(enc x)[f]? =some v):Ld P W h t ad v:=
 zbd hT ht hag hr had (by rw[zdZ hk l i f x hx hf];exact hv)
theorem zaY (hT:zba P T){α:Type}{enc:α→List Value}{t:TypeId}{ti:TI}{ad:Addr}{A:Option Addr}{n k i:Nat}{l:List α}{x:α}(ht:T.lookup t=some ti)(hag:zco ti.desc=true)
 (hr:zaD W h A n k (l.flatMap enc)) (hk:∀x,(enc x).length=k) (had:ad=adr A (i*k)) (hx:l[i]? =some x) (hs:ti.size=k):Ld P W h t ad (.agg (enc x).toArray):=
 zid hT ht hag hr had (by rw[hk,hs]) (fun j v hj=>by
  have hlt:j<k:=by rw[←hk x];exact(gsi.1 hj).1
  rw[zdZ hk l i j x hx hlt];exact hj)
/-- a part of an element -/
theorem zfx (hT:zba P T){α:Type}{enc:α→List Value}{t:TypeId}{ti:TI}{ad:Addr}{A:Option Addr}{n k i f:Nat}{l:List α}{x:α}{vs:List Value}(ht:T.lookup t=some ti)(hag:zco ti.desc=true)
 (hr:zaD W h A n k (l.flatMap enc)) (hk:∀x,(enc x).length=k) (had:ad=adr A (i*k+f)) (hx:l[i]? =some x) (hf:f+vs.length≤k) (hs:vs.length=ti.size) (hv:(enc x).drop f=vs++(enc x).drop (f+vs.length)):Ld P W h t ad (.agg vs.toArray):=
 zid hT ht hag hr had hs (fun j v hj=>by
  have hlt:j<vs.length:=(gsi.1 hj).1
  rw[Nat.add_assoc,zdZ hk l i (f+j) x hx (by omega),←List.getElem?_drop,hv,List.getElem?_append_left hlt,hj])
/-! ### new blocks -/
theorem zau {b:Bool}{d:Tmp}{ty pos af g}{t:TypeId}{x:Operand}{v:Value}(hg:zbi ops env g=some b)(hb:b=true)(hd:Nat.blt d N=true)(hk:(kf ⟨some d,.box t x,ty,pos,af,g⟩).al=true)
 (hx:zaR env x=some v)
 (hK:∀g',ES P W N kf ops rest ((d,(.pointer (some ⟨g',0,none⟩)))::env) (.blk g' t v.cells.toList::h) K):ES P W N kf ops (⟨some d,.box t x,ty,pos,af,g⟩::rest) env h K:=fun a ha=>by
 subst hb
 refine zbE (it:=za9 kf ops ⟨some d,.box t x,ty,pos,af,g⟩) (zbc ha hg) (zic hk) (fun w hw=> ?_)
 have e:(execOp a.eval ⟨some d,.box t x,ty,pos,af,g⟩).run P w=.ok (.value (.pointer (some ⟨w.heap.size,0,none⟩))) (w.alloc (.cells v.cells t)):=by
  simp[execOp,ha.eval hx,Instr.box,newVar,newRow]
 unfold Oper.wp
 show Oper.upon P _ a _ _ ((execOp a.eval ⟨some d,.box t x,ty,pos,af,g⟩).run P w)
 rw[e]
 refine⟨[.blk w.heap.size t v.cells.toList],?_,hK w.heap.size _ (ha.put (d:=some d) hd)⟩
 have:=hw.alloc_blk t v.cells.toList
 simpa using this
theorem zac (hT:zba P T){b:Bool}{d:Tmp}{ty pos af g}{t:TypeId}{ti:TI}(hg:zbi ops env g=some b)(hb:b=true)(hd:Nat.blt d N=true)(hk:(kf ⟨some d,.alloc t,ty,pos,af,g⟩).al=true)
 (ht:T.lookup t=some ti)
 (hK:∀g',ES P W N kf ops rest ((d,(.pointer (some ⟨g',0,none⟩)))::env) (.blk g' t ti.zero.cells.toList::h) K):ES P W N kf ops (⟨some d,.alloc t,ty,pos,af,g⟩::rest) env h K:=fun a ha=>by
 subst hb
 refine zbE (it:=za9 kf ops ⟨some d,.alloc t,ty,pos,af,g⟩) (zbc ha hg) (zic hk) (fun w hw=> ?_)
 have gd:=hT _ _ ht
 have e:(execOp a.eval ⟨some d,.alloc t,ty,pos,af,g⟩).run P w=.ok (.value (.pointer (some ⟨w.heap.size,0,none⟩))) (w.alloc (.cells ti.zero.cells t)):=by
  simp[execOp,Instr.alloc,newVar,newRow,gd.zv]
 unfold Oper.wp
 show Oper.upon P _ a _ _ ((execOp a.eval ⟨some d,.alloc t,ty,pos,af,g⟩).run P w)
 rw[e]
 refine⟨[.blk w.heap.size t ti.zero.cells.toList],?_,hK w.heap.size _ (ha.put (d:=some d) hd)⟩
 have:=hw.alloc_blk t ti.zero.cells.toList
 simpa using this
/-! ### stores -/
theorem Rep.setRow_blk {w:World}{g:Nat}{t:TypeId}{cs cs':List Value}(hr:Rep W (.blk g t cs::h) w):Rep W (.blk g t cs'::h) (w.setRow g cs'.toArray):=by
 have hg:=(hr.holds (.blk g t cs) (by simp))
 refine hr.change (row:=some g) ⟨rfl,rfl,rfl,by simp,fun k _ hk=>setRow_other w g k _ (fun e=>hk (by rw[e]))⟩ (fun g' e=>by simp[zah.keys];exact(Option.some.inj e).symm) ⟨hg.1,setRow_heap w g _ _ t _ hg.2⟩ (fun g' hg'=>.inl hg')
theorem Rep.setRow_own {w:World}{g n c k:Nat}{t:TypeId}{cs:List Value}{cur:Array Value}(hr:Rep W (.own (some ⟨g,0,none⟩) n c t k cs::h) w)
 (hcur:w.heap[g]? =some (.cells cur t (0,0))){n':Nat}{new:List Value}{cs':List Value}(hl:new.length=cur.size)(ht:new.take (n'*k)=cs')(hcs:cs'.length=n'*k)(hn:n'≤c)(h1:∀v∈cs',v.oneCell'=true):
 Rep W (.own (some ⟨g,0,none⟩) n' c t k cs'::h) (w.setRow g new.toArray):=by
 have hg:=(hr.holds (.own (some ⟨g,0,none⟩) n c t k cs) (by simp))
 refine hr.change (row:=some g) ⟨rfl,rfl,rfl,by simp,fun k _ hk=>setRow_other w g k _ (fun e=>hk (by rw[e]))⟩ (fun g' e=>by simp[zah.keys];exact(Option.some.inj e).symm) ?_ (fun g' hg'=>.inl (by simpa [zah.keys]using hg'))
 obtain⟨ho,hone⟩:=hg
 rcases ho.2 with ⟨hv,_⟩|⟨g',cap,cur',hv,hb,hg',hnc,hcm,hsz,_⟩
 ·cases hv
 ·injection hv with hA _ hc
  injection hA with hA
  injection hA with hA _ _
  subst hA hc
  rw[hg']at hcur
  injection hcur with hcur
  injection hcur with hcur _ _
  subst hcur
  exact⟨⟨hcs,.inr ⟨g,c,new.toArray,rfl,hb,setRow_heap w g _ _ t _ hg',hn,hcm,by simp[hl,hsz],by simpa using ht⟩⟩,h1⟩
theorem zd0 (hT:zba P T){t:TypeId}{ti:TI}(ht:T.lookup t=some ti){g off:Nat}{w:World}{v:Value}{tt:TypeId}{cur:Array Value}(hsz:v.cells.size=ti.size)(h1:v.cells.toList.all Value.oneCell'=true)
 (hcur:w.heap[g]? =some (.cells cur tt (0,0)))(hl:off+ti.size≤cur.size):
 (Instr.storeAt t (.pointer (some ⟨g,off,none⟩)) v).run P w=.ok () (w.setRow g (cur.toList.take off++v.cells.toList++cur.toList.drop (off+ti.size)).toArray):=by
 have gd:=hT _ _ ht
 have hst:=run_storeCells_at P g off tt v.cells.toList 0 cur w hcur (by simpa [hsz]using hl) (fun u hu=>List.all_eq_true.1 h1 u hu)
 simp only[Nat.add_zero]at hst
 simp only[Instr.storeAt,Instr.sureAddr,storeVar,Sem.run_bind,Sem.run_pure,Result.andThen_ok,gd.sz,hsz,ne_eq,not_true_eq_false,if_false]
 rw[hst]
 simp[hsz]
/-- cells 'vs' laid at 'off' -/
def lay (cs:List Value)(off:Nat)(vs:List Value):List Value:=cs.take off++vs++cs.drop (off+vs.length)
theorem zaP (hT:zba P T){b:Bool}{ty pos af g}{t:TypeId}{ti:TI}{x y:Operand}{ad:Addr}{v:Value}{tt:TypeId}{cs:List Value}(hg:zbi ops env g=some b)(hb:b=true)
 (hk:(kf ⟨none,.store t x y,ty,pos,af,g⟩).wr=true) (hx:zaR env x=some (.pointer (some ad))) (hy:zaR env y=some v) (ht:T.lookup t=some ti)
 (hp:h.Perm (.blk ad.block tt cs::h')) (hs:ad.spot=none) (hsz:v.cells.size=ti.size) (h1:v.cells.toList.all Value.oneCell'=true) (hl:ad.off+ti.size≤cs.length)
 (hK:ES P W N kf ops rest env (.blk ad.block tt (lay cs ad.off v.cells.toList)::h') K):ES P W N kf ops (⟨none,.store t x y,ty,pos,af,g⟩::rest) env h K:=fun a ha=>by
 subst hb
 refine zbs (it:=za9 kf ops ⟨none,.store t x y,ty,pos,af,g⟩) (zbc ha hg) (zhr hk) (fun w hw=> ?_)
 obtain⟨gb,off,s⟩:=ad
 simp only at hs hl hp hK
 subst hs
 have hw':=hw.perm hp
 have hh:=hw'.heap_blk (g:=gb) (t:=tt) (cs:=cs) (by simp)
 have:=zd0 hT ht (g:=gb) (off:=off) hsz h1 hh (by simpa using hl)
 unfold Oper.wp
 simp only[za9,execOp,ha.eval hx,ha.eval hy,Sem.run_bind,this,Result.andThen_ok,Sem.run_pure,Oper.upon_skip]
 refine⟨_,?_,hK _ ha⟩
 have e:lay cs off v.cells.toList=(cs.toArray.toList.take off++v.cells.toList++cs.toArray.toList.drop (off+ti.size)):=by simp[lay,hsz]
 rw[←e]
 exact hw'.setRow_blk
/-- a store into a row of the call's own -/
theorem za8 (hT:zba P T){b:Bool}{ty pos af g}{t:TypeId}{ti:TI}{x y:Operand}{ad:Addr}{A:Option Addr}{n c k o:Nat}{v:Value}{tt:TypeId}{cs:List Value}(hg:zbi ops env g=some b)(hb:b=true)
 (hk:(kf ⟨none,.store t x y,ty,pos,af,g⟩).wr=true) (hx:zaR env x=some (.pointer (some ad))) (hy:zaR env y=some v) (ht:T.lookup t=some ti)
 (hp:h.Perm (.own A n c tt k cs::h')) (had:ad=adr A o) (hsz:v.cells.size=ti.size) (h1:v.cells.toList.all Value.oneCell'=true) (hl:o+ti.size≤n*k) (h0:0<n)
 (hK:ES P W N kf ops rest env (.own A n c tt k (lay cs o v.cells.toList)::h') K):ES P W N kf ops (⟨none,.store t x y,ty,pos,af,g⟩::rest) env h K:=fun a ha=>by
 subst hb
 refine zbs (it:=za9 kf ops ⟨none,.store t x y,ty,pos,af,g⟩) (zbc ha hg) (zhr hk) (fun w hw=> ?_)
 have hw':=hw.perm hp
 have ho:=hw'.holds (.own A n c tt k cs) (by simp)
 rcases ho.1.2 with ⟨_,hn⟩|⟨gb,cap,cur,hv,hbb,hgb,hnc,hcm,hcs,htk⟩
 ·omega
 ·injection hv with hA _ hc
  subst hA hc
  have had':ad=⟨gb,o,none⟩:=by rw[had];simp[adr,ze7]
  subst had'
  have hle:n*k≤cur.size:=by rw[hcs];exact Nat.mul_le_mul_right k hnc
  have:=zd0 hT ht (g:=gb) (off:=o) hsz h1 hgb (by omega)
  unfold Oper.wp
  simp only[za9,execOp,ha.eval hx,ha.eval hy,Sem.run_bind,this,Result.andThen_ok,Sem.run_pure,Oper.upon_skip]
  refine⟨_,?_,hK _ ha⟩
  have hlen:=ho.1.1
  have hvl:v.cells.toList.length=ti.size:=by simpa using hsz
  have hcl:(cur.toList.take (n*k)).length=n*k:=by simp;omega
  refine hw'.setRow_own hgb (n':=n) ?_ ?_ ?_ hnc ?_
  ·simp only[lla,llt,List.length_drop,Array.length_toList,hvl];omega
  ·rw[←htk,lay,hvl]
   rw[List.take_take,List.take_append,List.take_append,lla,llt,Array.length_toList,hvl]
   rw[List.take_of_length_le (l:=List.take o cur.toList) (by simp;omega),List.take_of_length_le (l:=v.cells.toList) (by rw[hvl];omega)]
   rw[Nat.min_eq_left (by omega:o≤cur.size),Nat.min_eq_left (by omega:o≤n*k)]
   congr 1
   rw[List.drop_take]
  ·simp only[lay,lla,llt,List.length_drop,hvl,hlen];omega
  ·intro u hu
   simp only[lay,lma]at hu
   rcases hu with (hu|hu)|hu
   ·exact ho.2 u (List.mem_of_mem_take hu)
   ·exact List.all_eq_true.1 h1 u hu
   ·exact ho.2 u (List.mem_of_mem_drop hu)
theorem mem0 {c:zah}{F:List zah}:c∈c::F:=List.mem_cons_self
theorem mem1 {a c:zah}{F:List zah}:c∈a::c::F:=List.mem_cons_of_mem _ mem0
theorem mem2 {a b c:zah}{F:List zah}:c∈a::b::c::F:=List.mem_cons_of_mem _ mem1
theorem mem3 {a b d c:zah}{F:List zah}:c∈a::b::d::c::F:=List.mem_cons_of_mem _ mem2
theorem mem4 {a b d e c:zah}{F:List zah}:c∈a::b::d::e::c::F:=List.mem_cons_of_mem _ mem3
theorem sel0 {c:zah}{F:List zah}:(c::F).Perm (c::F):=plr _
theorem sel1 {a c:zah}{F:List zah}:(a::c::F).Perm (c::a::F):=List.Perm.swap _ _ _
theorem selS {a c:zah}{F G:List zah}(hp:F.Perm (c::G)):(a::F).Perm (c::a::G):=(hp.cons a).trans (List.Perm.swap _ _ _)
/-! ### an element's address -/
theorem zaU (hT:zba P T){b:Bool}{d:Tmp}{ty pos af g}{t e:TypeId}{ti te:TI}{x ix:Operand}{A:Option Addr}{n c:Nat}{i:Int}{k:IntKind}(hg:zbi ops env g=some b)(hb:b=true)(hd:Nat.blt d N=true)
 (ht:T.lookup t=some ti) (htd:ti.desc=.slice e) (hte:T.lookup e=some te) (hx:zaR env x=some (.slice A n c)) (hi:zaR env ix=some (.int k i)) (h0:0≤i) (h1:i<n) (hA:A.isSome=true)
 (hK:ES P W N kf ops rest ((d,.pointer (some (adr A (i.toNat*te.size))))::env) h K):ES P W N kf ops (⟨some d,.indexAddr t x ix,ty,pos,af,g⟩::rest) env h K:=
 zbI hg hb hd (fun a ha w=>by
  have g1:=hT _ _ ht
  have g2:=hT _ _ hte
  have hu:=g1.1
  rw[htd]at hu
  cases A with
  |none=>simp at hA
  |some ad=>simp[execOp,ha.eval hx,ha.eval hi,Instr.indexAt,asIntOf,run_underlying hu,h0,h1,g2.sz,adr]) hK
end
end Go.Sl
set_option linter.unusedSimpArgs false
set_option linter.unusedVariables false
namespace Go.Sl
open Go Go.RowKit
/-- the function is there, with a body -/
def zie (P : Program) (f : FuncId) : Prop := ∃ fn, P.funcs[f]? = some fn ∧ (fn.name == "runtime.NumGoroutine") = false ∧ fn.body.isNone = false
/-- a contract -/
def zaL (P:Program)(W:World)(f:FuncId)(args:List Value)(h:List zah)(R:Value→List zah→Prop):Prop:=
 zie P f∧∀w,Rep W h w→Calls P f args.toArray w fun e w'=>∃v h',e=.returned v∧R v h'∧Rep W h' w'
/-- a contract of a function that changes nothing that is known -/
def zaF (P:Program)(W:World)(f:FuncId)(args:List Value)(h:List zah)(v:Value):Prop:=
 zie P f∧∀h',(∀c∈h,c∈h')→∀w,Rep W h' w→Calls P f args.toArray w fun e w'=>e=.returned v∧Rep W h' w'
section
variable {P : Program} {W : World} {T : Tab} {N : Nat} {env env' : Env} {h h' h2 : List zah} {kf : KF} {ops : Array Oper} {K : Env → List zah → Prop} {o : Oper} {rest : List Oper} {Q : Exit → Env → List zah → Prop}
variable {f : FuncId} {args : List Value} {R R' : Value → List zah → Prop}
theorem zaL.mono (hs:zaL P W f args h R)(hr:∀v h',R v h'→R' v h'):zaL P W f args h R':=
 ⟨hs.1,fun w hw=>(hs.2 w hw).mono fun _ _ ⟨v,h',e,r,rp⟩=>⟨v,h',e,hr _ _ r,rp⟩⟩
theorem zaL.perm (hs:zaL P W f args h R)(hp:h'.Perm h):zaL P W f args h' R:=⟨hs.1,fun w hw=>hs.2 w (hw.perm hp)⟩
/-- what is left over may be thrown away -/
theorem zaL.drop (hs:zaL P W f args h fun v h'=>∃J k,h'.Perm (J++k)∧R v k):zaL P W f args h R:=
 ⟨hs.1,fun w hw=>(hs.2 w hw).mono fun _ _ ⟨v,_,e,⟨_,k,hp,r⟩,rp⟩=>⟨v,k,e,r,(rp.perm hp).drop⟩⟩
theorem zaF.of {v:Value}(hs:∀h',(∀c∈h,c∈h')→zaL P W f args h' fun u k=>u=v∧∃J,k.Perm (J++h')):zaF P W f args h v:=
 ⟨(hs h (fun _ hc=>hc)).1,fun h' hsub w hw=>((hs h' hsub).2 w hw).mono fun _ _ ⟨u,_,e,⟨hu,_,hp⟩,rp⟩=>⟨by rw[e,hu],(rp.perm hp).drop⟩⟩
theorem zaF.mono {v:Value}(hs:zaF P W f args h v)(hsub:∀c∈h,c∈h'):zaF P W f args h' v:=⟨hs.1,fun h2 hs2 w hw=>hs.2 h2 (fun c hc=>hs2 c (hsub c hc)) w hw⟩
theorem zaF.cast {v u:Value}(hs:zaF P W f args h v)(e:v=u):zaF P W f args h u:=e▸hs
theorem zcA (hf:zie P f){x:Operand}{as':Array Operand}{ats:Array TypeId}{a:Act}{first captured:Array Value}{vs:List Value}(ha:zbg N env a)(hx:zaR env x=some (.func (.func f) first captured))(hv:zcn env as'.toList=some vs)
 {dst ty pos af g} (w:World):
 (execOp a.eval ⟨dst,.call {callee:=.value x,args:=as',argTypes:=ats},ty,pos,af,g⟩).run P w=.ok (.enter f (first.toList++vs++captured.toList).toArray) w:=by
 obtain⟨fn,h1,h2,h3⟩:=hf
 have hvs:=ha.evals hv
 have e3:Array.map a.eval as'=vs.toArray:=by apply Array.ext';simp[←hvs]
 simp only[execOp,resolve,ha.eval hx,Deferred.ofValue,Sem.run_bind,Sem.run_pure,Result.andThen_ok,invoke,callFunc,run_program,h1,h2,h3,e3]
 simp only[Bool.false_eq_true,if_false,Sem.run_pure]
 congr 2
 apply Array.ext'
 simp
theorem zaV {b:Bool}{d:Tmp}{ty pos af g}{x:Operand}{as':Array Operand}{ats:Array TypeId}{first captured:Array Value}{vs:List Value}(hg:zbi ops env g=some b)(hb:b=true)(hd:Nat.blt d N=true)
 (hk:(kf ⟨some d,.call {callee:=.value x,args:=as',argTypes:=ats},ty,pos,af,g⟩).wr=true)
 (hx:zaR env x=some (.func (.func f) first captured)) (hv:zcn env as'.toList=some vs) (hargs:first.toList++vs++captured.toList=args) (hs:zaL P W f args h R)
 (hK:∀v h',R v h'→ES P W N kf ops rest ((d,v)::env) h' K):ES P W N kf ops (⟨some d,.call {callee:=.value x,args:=as',argTypes:=ats},ty,pos,af,g⟩::rest) env h K:=fun a ha=>by
 subst hb hargs
 refine zbs (it:=za9 kf ops ⟨some d,.call {callee:=.value x,args:=as',argTypes:=ats},ty,pos,af,g⟩) (zbc ha hg) (zhr hk) (fun w hw=> ?_)
 unfold Oper.wp
 show Oper.upon P _ a _ _ ((execOp a.eval ⟨some d,.call {callee:=.value x,args:=as',argTypes:=ats},ty,pos,af,g⟩).run P w)
 rw[zcA hs.1 ha hx hv]
 rw[Oper.upon_enter]
 refine(hs.2 w hw).mono fun e w' ⟨v,h',he,hr,hrep⟩=> ?_
 subst he
 exact⟨h',hrep,hK v h' hr _ (ha.put (d:=some d) hd)⟩
theorem zbW {b:Bool}{d:Tmp}{ty pos af g}{x:Operand}{as':Array Operand}{ats:Array TypeId}{first captured:Array Value}{vs:List Value}(hg:zbi ops env g=some b)(hb:b=true)(hd:Nat.blt d N=true)
 (hk:(kf ⟨some d,.call {callee:=.value x,args:=as',argTypes:=ats},ty,pos,af,g⟩).al=true)
 (hx:zaR env x=some (.func (.func f) first captured)) (hv:zcn env as'.toList=some vs) (hargs:first.toList++vs++captured.toList=args) (hs:zaL P W f args h R)
 (hK:∀v h',R v h'→∃cs,h'=cs++h∧ES P W N kf ops rest ((d,v)::env) h' K):ES P W N kf ops (⟨some d,.call {callee:=.value x,args:=as',argTypes:=ats},ty,pos,af,g⟩::rest) env h K:=fun a ha=>by
 subst hb hargs
 refine zbE (it:=za9 kf ops ⟨some d,.call {callee:=.value x,args:=as',argTypes:=ats},ty,pos,af,g⟩) (zbc ha hg) (zic hk) (fun w hw=> ?_)
 unfold Oper.wp
 show Oper.upon P _ a _ _ ((execOp a.eval ⟨some d,.call {callee:=.value x,args:=as',argTypes:=ats},ty,pos,af,g⟩).run P w)
 rw[zcA hs.1 ha hx hv]
 rw[Oper.upon_enter]
 refine(hs.2 w hw).mono fun e w' ⟨v,h',he,hr,hrep⟩=> ?_
 subst he
 obtain⟨cs,hcs,hk⟩:=hK v h' hr
 subst hcs
 exact⟨cs,hrep,hk _ (ha.put (d:=some d) hd)⟩
theorem zaC {b:Bool}{d:Tmp}{ty pos af g}{x:Operand}{as':Array Operand}{ats:Array TypeId}{first captured:Array Value}{vs:List Value}{v:Value}(hg:zbi ops env g=some b)(hb:b=true)(hd:Nat.blt d N=true)
 (hk:(kf ⟨some d,.call {callee:=.value x,args:=as',argTypes:=ats},ty,pos,af,g⟩).np=true)
 (hx:zaR env x=some (.func (.func f) first captured)) (hv:zcn env as'.toList=some vs) (hargs:first.toList++vs++captured.toList=args) (hs:zaF P W f args h v)
 (hK:ES P W N kf ops rest ((d,v)::env) h K):ES P W N kf ops (⟨some d,.call {callee:=.value x,args:=as',argTypes:=ats},ty,pos,af,g⟩::rest) env h K:=fun a ha=>by
 subst hb hargs
 refine zdA (it:=za9 kf ops ⟨some d,.call {callee:=.value x,args:=as',argTypes:=ats},ty,pos,af,g⟩) (v:=v) (zbc ha hg) (zlK hk) (fun h' hsub w hw=> ?_) (hK _ (ha.put (d:=some d) hd))
 unfold Oper.quietAt
 show Oper.quietUpon P _ w v ((execOp a.eval ⟨some d,.call {callee:=.value x,args:=as',argTypes:=ats},ty,pos,af,g⟩).run P w)
 rw[zcA hs.1 ha hx hv]
 exact⟨rfl,hs.2 h' hsub w hw⟩
theorem zjR {b:Bool}{ty pos af g}{x:Operand}{as':Array Operand}{ats:Array TypeId}{first captured:Array Value}{vs:List Value}(hg:zbi ops env g=some b)(hb:b=true)
 (hk:(kf ⟨none,.call {callee:=.value x,args:=as',argTypes:=ats},ty,pos,af,g⟩).wr=true)
 (hx:zaR env x=some (.func (.func f) first captured)) (hv:zcn env as'.toList=some vs) (hargs:first.toList++vs++captured.toList=args) (hs:zaL P W f args h R)
 (hK:∀v h',R v h'→ES P W N kf ops rest env h' K):ES P W N kf ops (⟨none,.call {callee:=.value x,args:=as',argTypes:=ats},ty,pos,af,g⟩::rest) env h K:=fun a ha=>by
 subst hb hargs
 refine zbs (it:=za9 kf ops ⟨none,.call {callee:=.value x,args:=as',argTypes:=ats},ty,pos,af,g⟩) (zbc ha hg) (zhr hk) (fun w hw=> ?_)
 unfold Oper.wp
 show Oper.upon P _ a _ _ ((execOp a.eval ⟨none,.call {callee:=.value x,args:=as',argTypes:=ats},ty,pos,af,g⟩).run P w)
 rw[zcA hs.1 ha hx hv]
 rw[Oper.upon_enter]
 refine(hs.2 w hw).mono fun e w' ⟨v,h',he,hr,hrep⟩=> ?_
 subst he
 exact⟨h',hrep,hK v h' hr _ ha⟩
/-! ### code -/
def AW (P:Program)(W:World)(N:Nat)(c:Code)(env:Env)(h:List zah)(Q:Exit→Env→List zah→Prop):Prop:=
 ∀a w,zbg N env a→Rep W h w→c.wp P (fun ex a' w'=>∃env' h',Q ex env' h'∧zbg N env' a'∧Rep W h' w') a w
def SeqQ (P:Program)(W:World)(N:Nat)(y:Code)(Q:Exit→Env→List zah→Prop):Exit→Env→List zah→Prop
 | .normal,env,h=>AW P W N y env h Q
 |ex,env,h=>Q ex env h
def zif (id:Nat)(Q:Exit→Env→List zah→Prop):Exit→Env→List zah→Prop
 | .exit i,env,h=>if i=id then Q .normal env h else Q (.exit i) env h
 |ex,env,h=>Q ex env h
theorem zal (hq:Q .normal env h):AW P W N .skip env h Q:=fun _ _ ha hw=>wp_skip ⟨env,h,hq,ha,hw⟩
theorem zam {id:Nat}(hq:Q (.exit id) env h):AW P W N (.exit id) env h Q:=fun _ _ ha hw=>wp_exit ⟨env,h,hq,ha,hw⟩
theorem zay (hq:Q .ret env h):AW P W N .ret env h Q:=fun _ _ ha hw=>wp_ret ⟨env,h,hq,ha,hw⟩
theorem zaz {x y:Code}(hx:AW P W N x env h (SeqQ P W N y Q)):AW P W N (.seq x y) env h Q:=fun a w ha hw=>by
 refine wp_seq (Code.wp_mono (fun ex a' w' ⟨env',h',hq,ha',hw'⟩=> ?_) (hx a w ha hw))
 cases ex with
 |normal=>exact hq a' w' ha' hw'
 |_=>exact⟨env',h',hq,ha',hw'⟩
theorem zae {id:Nat}{c:Code}(hc:AW P W N c env h (zif id Q)):AW P W N (.block id c) env h Q:=fun a w ha hw=>by
 refine wp_block (Code.wp_mono (fun ex a' w' ⟨env',h',hq,ha',hw'⟩=> ?_) (hc a w ha hw))
 cases ex with
 |exit i=>
  simp only[zif]at hq
  simp only[Exit.inBlock]
  split at hq<;>rename_i hi<;>simp only[hi,if_true,if_false]<;>exact⟨env',h',hq,ha',hw'⟩
 |_=>exact⟨env',h',hq,ha',hw'⟩
theorem zan {c:Operand}{x y:Code}{t:Bool}(hc:zaR env c=some (.bool t))(h1:t=true→AW P W N x env h Q)(h0:t=false→AW P W N y env h Q):AW P W N (.cond c x y) env h Q:=fun a w ha hw=>
 wp_cond_split (ha.eval hc) (fun e=>h1 e a w ha hw) (fun e=>h0 e a w ha hw)
theorem zaf {c:Operand}{x y:Code}{t:Bool}(hc:zaR env c=some (.bool t))(ht:t=true)(h1:AW P W N x env h Q):AW P W N (.cond c x y) env h Q:=fun a w ha hw=>
 wp_cond_true (by rw[ha.eval hc,ht]) (h1 a w ha hw)
theorem zag {c:Operand}{x y:Code}{t:Bool}(hc:zaR env c=some (.bool t))(ht:t=false)(h1:AW P W N y env h Q):AW P W N (.cond c x y) env h Q:=fun a w ha hw=>
 wp_cond_false (by rw[ha.eval hc,ht]) (h1 a w ha hw)
theorem zig (ops:Array Oper)(kf:KF):ze6 ops (fun i=>match ops[i]? with|some o=>kf o|none=>.write) kf.keep=ops.toList.map (za9 kf ops):=by
 unfold ze6
 have key:∀(l:List Oper) (k:Nat),(∀j,l[j]? =ops[k+j]?)→(List.range' k l.length).filterMap (za5 (fun i=>match ops[i]? with|some o=>kf o|none=>.write) kf.keep ops)=l.map (za9 kf ops):=by
  intro l
  induction l with
  |nil=>intro k _;rfl
  |cons o l ih=>
   intro k hl
   have h0:ops[k]? =some o:=by simpa using (hl 0).symm
   rw[List.length_cons,List.range'_succ,List.filterMap_cons]
   have:za5 (fun i=>match ops[i]? with|some o=>kf o|none=>.write) kf.keep ops k=some (za9 kf ops o):=by unfold za5;simp only[h0,Option.map_some];rfl
   rw[this,ih (k+1) (fun j=>by have:=hl (j+1);simpa [Nat.add_assoc,Nat.add_comm 1 j]using this)]
   rfl
 have:=key ops.toList 0 (by simp)
 rw[List.range_eq_range',←Array.length_toList,this]
theorem zaa {id:Nat}{l:List Oper}(hes:ES P W N kfN l.toArray l env h fun env' h'=>Q .normal env' h'):AW P W N (.region id l.toArray false) env h Q:=fun a w ha hw=>by
 refine zhq (W:=W) (kp:=kfN.keep) (kd:=fun i=>match l.toArray[i]? with|some o=>kfN o|none=>.write) (Q:=fun a' h'=>∃env',Q .normal env' h'∧zbg N env' a') (fun a' h' w' hw' ⟨env',hq,ha'⟩=>⟨env',h',hq,ha',hw'⟩) hw ?_
 rw[zig]
 exact hes a ha
def kdOf (kf:KF)(ops:Array Oper):Nat→Kd:=fun i=>match ops.toList[i]? with
 |some o=>kf o
 |none=>.write
theorem zeQ (ops:Array Oper)(kf:KF):∀(order:List Nat),zdX ops (kdOf kf ops) kf.keep order=(order.filterMap (ops.toList[·]?)).map (za9 kf ops)
 |[]=>rfl
 |i::order=>by
  have ih:=zeQ ops kf order
  unfold zdX at*
  rw[List.filterMap_cons,List.filterMap_cons]
  cases hi:ops[i]? with
  |none=>
   have e1:za5 (kdOf kf ops) kf.keep ops i=none:=by unfold za5;rw[hi];rfl
   have e2:ops.toList[i]? =none:=by simpa using hi
   rw[e1,e2];exact ih
  |some o=>
   have e2:ops.toList[i]? =some o:=by simpa using hi
   have e1:za5 (kdOf kf ops) kf.keep ops i=some (za9 kf ops o):=by unfold za5;simp only[hi,Option.map_some,kdOf,e2];rfl
   rw[e1,e2,List.map_cons,ih]
/-- a region whose order is drawn: 'order': the plan; 'l': its operations in that order -/
theorem zkX {id:Nat}{ol l:List Oper}(q al:List FuncId)(order:List Nat)(hm:P.follows .mixedOrders=true)
 (hp:(Region.noSelect ol.toArray&&(order.length==ol.toArray.size&&zdW (kdOf (kfD q al) ol.toArray) ol.toArray (Region.before ol.toArray) order (Array.replicate ol.toArray.size false)))=true)
 (hl:order.filterMap (ol[·]?)=l) (hes:ES P W N (kfD q al) ol.toArray l env h fun env' h'=>Q .normal env' h'):AW P W N (.region id ol.toArray true) env h Q:=fun a w ha hw=>by
 refine zgk (W:=W) (kp:=(kfD q al).keep) (kd:=kdOf (kfD q al) ol.toArray) (Q:=fun a' h'=>∃env',Q .normal env' h'∧zbg N env' a') (fun a' h' w' hw' ⟨env',hq,ha'⟩=>⟨env',h',hq,ha',hw'⟩) hm hp hw ?_
 rw[zeQ]
 simp only[hl]
 exact hes a ha
/-- a region, walked along a plan that parts -/
def EP (P:Program)(W:World)(N:Nat)(kf:KF)(ops:Array Oper)(p:Plan)(env:Env)(h:List zah)(K:Env→List zah→Prop):Prop:=
 ∀a,zbg N env a→seqP P W (kdOf kf ops) kf.keep ops (fun a' h'=>∃env',K env' h'∧zbg N env' a') p a h
theorem zbX (hK:K env h):EP P W N kf ops .nil env h K:=fun _ ha=>⟨env,hK,ha⟩
theorem zbY {p q:Plan}(h1:EP P W N kf ops p env h K)(h2:EP P W N kf ops q env h K):EP P W N kf ops (.alt p q) env h K:=fun a ha=>⟨h1 a ha,h2 a ha⟩
theorem zbx {i:Nat}{o:Oper}{p:Plan}(ho:ops.toList[i]? =some o)(hes:ES P W N kf ops [o] env h fun env' h'=>EP P W N kf ops p env' h' K):EP P W N kf ops (.step i p) env h K:=fun a ha it hit=>by
 have ho':ops[i]? =some o:=by simpa using ho
 have e1:za5 (kdOf kf ops) kf.keep ops i=some (za9 kf ops o):=by unfold za5;simp only[ho',Option.map_some,kdOf,ho];rfl
 rw[e1]at hit
 injection hit with hit
 subst hit
 exact zc3 (fun a' h' ⟨env',h1,h2⟩=>h1 a' h2) (hes a ha)
/-- what is asked of a frame -/
def Sub (env:Env):Env→Prop
 |[]=>True
 |(t,v)::e=>env.lookup t=some v∧Sub env e
theorem zd1 {a:Act}:∀{e:Env},Sub env e→zbg N env a→zbg N e a
 |[],_,ha=>⟨ha.size,ha.defers,fun t v hv=>by simp at hv⟩
 |(t,v)::e,hs,ha=>⟨ha.size,ha.defers,fun u x hx=>by
    rw[List.lookup_cons]at hx
    split at hx
    ·rename_i he
     obtain rfl:u=t:=by simpa using he
     injection hx with hx
     subst hx
     exact ha.at_ _ _ hs.1
    ·exact(zd1 hs.2 ha).at_ u x hx⟩
def zkY {α:Type}(E:α→Env)(H:α→List zah)(μ:α→Nat)(S:α→Prop)(x:α)(Q:Exit→Env→List zah→Prop):Exit→Env→List zah→Prop
 | .normal,env,h=>∃y J,μ y<μ x∧S y∧Sub env (E y)∧h.Perm (J++H y)
 |ex,env,h=>Q ex env h
theorem zds {α:Type}{c:Code}(E:α→Env)(H:α→List zah)(μ:α→Nat)(S:α→Prop)(x:α){J:List zah}(hs:S x)(he:Sub env (E x))(hp:h.Perm (J++H x))
 (hc:∀x,S x→AW P W N c (E x) (H x) (zkY E H μ S x Q)):AW P W N (.loop c) env h Q:=fun a w ha hw=>by
 classical
 let I:Act→World→Prop:=fun a w=>∃x,S x∧zbg N (E x) a∧Rep W (H x) w
 have hI0:I a w:=⟨x,hs,zd1 he ha,(hw.perm hp).drop⟩
 let μ':Act→World→Nat:=fun a w=>if hI:I a w then
  (Classical.epsilon fun n=>∃x,S x∧zbg N (E x) a∧Rep W (H x) w∧μ x=n∧∀y,S y→zbg N (E y) a→Rep W (H y) w→n≤μ y)else 0
 have hmin:∀a w,I a w→∃x,S x∧zbg N (E x) a∧Rep W (H x) w∧μ x=μ' a w∧∀y,S y→zbg N (E y) a→Rep W (H y) w→μ' a w≤μ y:=by
  intro a w hI
  have hex:∃n,∃x,S x∧zbg N (E x) a∧Rep W (H x) w∧μ x=n∧∀y,S y→zbg N (E y) a→Rep W (H y) w→n≤μ y:=by
   have key:∀n,(∃x,S x∧zbg N (E x) a∧Rep W (H x) w∧μ x=n)→∃n,∃x,S x∧zbg N (E x) a∧Rep W (H x) w∧μ x=n∧∀y,S y→zbg N (E y) a→Rep W (H y) w→n≤μ y:=by
    intro n
    induction n using Nat.strongRecOn with
    |_ n ih=>
     rintro⟨x,h1,h2,h3,h4⟩
     by_cases hq:∀y,S y→zbg N (E y) a→Rep W (H y) w→n≤μ y
     ·exact⟨n,x,h1,h2,h3,h4,hq⟩
     ·simp only[Classical.not_forall,Nat.not_le]at hq
      obtain⟨y,k1,k2,k3,k4⟩:=hq
      exact ih (μ y) k4 ⟨y,k1,k2,k3,rfl⟩
   obtain⟨x,h1,h2,h3⟩:=hI
   exact key (μ x) ⟨x,h1,h2,h3,rfl⟩
  have:=Classical.epsilon_spec hex
  have e:μ' a w=Classical.epsilon fun n=>∃x,S x∧zbg N (E x) a∧Rep W (H x) w∧μ x=n∧∀y,S y→zbg N (E y) a→Rep W (H y) w→n≤μ y:=dif_pos hI
  rw[e]
  exact this
 refine wp_loop I μ' hI0 (fun a w hI=> ?_)
 obtain⟨x,h1,h2,h3,h4,_⟩:=hmin a w hI
 refine Code.wp_mono (fun ex a' w' ⟨env',h',hq,ha',hw'⟩=> ?_) (hc x h1 a w h2 h3)
 cases ex with
 |normal=>
  obtain⟨y,J,k1,k2,k3,k4⟩:=hq
  have ha2:=zd1 k3 ha'
  have hw2:=(hw'.perm k4).drop
  have hI':I a' w':=⟨y,k2,ha2,hw2⟩
  obtain⟨_,_,_,_,_,hle⟩:=hmin a' w' hI'
  have:=hle y k2 ha2 hw2
  exact⟨hI',by omega⟩
 |_=>exact⟨env',h',hq,ha',hw'⟩
/-! ### a function's body -/
def zeR :Nat→List Value→Env
 |_,[]=>[]
 |i,v::vs=>(i,v)::zeR (i+1) vs
theorem zd2 :∀(vs:List Value) (i t:Nat) (v:Value),(zeR i vs).lookup t=some v→i≤t∧vs[t - i]? =some v
 |[],_,_,_,hv=>by simp[zeR]at hv
 |u::vs,i,t,v,hv=>by
  rw[zeR,List.lookup_cons]at hv
  split at hv
  ·rename_i he
   obtain rfl:t=i:=by simpa using he
   injection hv with hv
   subst hv
   simp
  ·have:=zd2 vs (i+1) t v hv
   refine⟨by omega,?_⟩
   rw[show t - i=(t - (i+1))+1 by omega]
   simpa using this.2
def zfy (P:Program)(W:World)(h:List zah)(env:Env):List ResultVar→List Value→Prop
 |[],[]=>True
 | .tmp t::rs,v::vs=>env.lookup t=some v∧zfy P W h env rs vs
 | .cell a t::rs,v::vs=>(∃ad,env.lookup a=some (.pointer (some ad))∧Ld P W h t ad v)∧zfy P W h env rs vs
 |_,_=>False
def oneV :List Value→Value
 |[v]=>v
 |vs=>.tuple vs.toArray
def RetQ (P:Program)(W:World)(res:List ResultVar)(R:Value→List zah→Prop):Exit→Env→List zah→Prop
 | .ret,env,h=>∃vs,zfy P W h env res vs∧R (oneV vs) h
 | .normal,env,h=>∃vs,zfy P W h env res vs∧R (oneV vs) h
 |_,_,_=>False
def zg1 (tmps:Array Value):ResultVar→Sem Value
 | .tmp t=>pure (tmps.getD t undef)
 | .cell a t=>do loadVar t (←asAddr (tmps.getD a undef))
theorem zhs (fn:Func)(tmps:Array Value):results fn tmps=(do
 let vs ←fn.results.mapM (zg1 tmps)
 pure (if h:vs.size=1 then vs[0]else .tuple vs)):=by
 unfold results
 congr 2
theorem zd3 {fn:Func}{a:Act}{w:World}{vs:List Value}(ha:zbg N env a)(hw:Rep W h w)(hr:zfy P W h env fn.results.toList vs):(results fn a.tmps).run P w=.ok (oneV vs) w:=by
 have hws:RepS W h w:=hw.weak fun _ hc=>hc
 have key:∀(rs:List ResultVar) (vs:List Value),zfy P W h env rs vs→(rs.mapM (zg1 a.tmps)).run P w=.ok vs w:=by
  intro rs
  induction rs with
  |nil=>intro vs hv;cases vs<;>simp[zfy]at hv ⊢
  |cons r rs ih=>
   intro vs hv
   cases vs with
   |nil=>cases r<;>simp[zfy]at hv
   |cons v vs=>
    cases r with
    |tmp t=>
     have h1:=ha.at_ t v hv.1
     simp only[List.mapM_cons,zg1,Sem.run_bind,Sem.run_pure,Result.andThen_ok,ih vs hv.2]
     simp[h1]
    |cell c t=>
     obtain⟨⟨ad,h1,h2⟩,h3⟩:=hv
     have h1:=ha.at_ c _ h1
     have h2:=h2 w hws
     simp only[Instr.loadAt,Instr.sureAddr,Sem.run_bind,Sem.run_pure,Result.andThen_ok]at h2
     have h4:a.tmps.getD c undef=.pointer (some ad):=by simp[h1]
     simp only[List.mapM_cons,zg1,Sem.run_bind,h4,asAddr,Sem.run_pure,Result.andThen_ok,h2,ih vs h3]
 have:=key _ _ hr
 rw[zhs,Array.mapM_eq_mapM_toList]
 simp only[Sem.run_bind,Sem.run_map,this,Result.andThen_ok,Sem.run_pure]
 cases vs with
 |nil=>rfl
 |cons v vs=>cases vs with
  |nil=>rfl
  |cons u us=>simp[oneV]
theorem zaA {fn : Func} {c : Code} (hf : P.funcs[f]? = some fn) (hb : fn.body = some c) (hn : (fn.name == "runtime.NumGoroutine") = false) {res : Array ResultVar} (hres : fn.results = res) {N : Nat} (hN : fn.ntmps = N) (hargs : Nat.ble args.length N = true) {E : Env} (hE : zeR 0 args = E)
 (hbody:AW P W N c E h (RetQ P W res.toList R)):zaL P W f args h R:=by
 subst hN hres hE
 have hargs:=Nat.le_of_ble_eq_true hargs
 refine⟨⟨fn,hf,hn,by rw[hb];rfl⟩,fun w hw=>calls_of_wp hf hb ?_⟩
 have ha:zbg fn.ntmps (zeR 0 args) {tmps:=args.toArray++Array.replicate (fn.ntmps - args.toArray.size) undef,defers:=[]}:=by
  refine⟨by simp;omega,rfl,fun t v hv=> ?_⟩
  obtain⟨_,h2⟩:=zd2 args 0 t v hv
  have hlt:t<args.length:=by simpa using (gsi.1 h2).1
  rw[Array.getElem?_append_left (by simpa using hlt)]
  simpa using h2
 refine Code.wp_mono (fun ex a' w' ⟨env',h',hq,ha',hw'⟩=> ?_) (hbody _ w ha hw)
 cases ex with
 |ret=>obtain⟨vs,hv,hr⟩:=hq;exact⟨ha'.defers,_,zd3 ha' hw' hv,_,h',rfl,hr,hw'⟩
 |normal=>obtain⟨vs,hv,hr⟩:=hq;exact⟨ha'.defers,_,zd3 ha' hw' hv,_,h',rfl,hr,hw'⟩
 |_=>exact hq.elim
end
end Go.Sl
set_option linter.unusedSimpArgs false
set_option linter.unusedVariables false
namespace Go.Sl
open Go Go.RowKit
/-! ### struct and slice literals -/
def zdt (T:Tab):List Field→Option (List (Nat×Nat))
 |[]=>some []
 |f::fs=>match T.lookup f.type,zdt T fs with
  |some ti,some ps=>some ((f.offset,ti.size)::ps)
  |_,_=>none
def zd4 (place:Nat→Option (Nat×Nat))(cells:List Value):List (Nat×Value)→Option (List Value)
 |[]=>some cells
 |(i,v)::rest=>match place i with
  |none=>none
  |some (off,size)=>if v.cells.size=size∧off+size≤cells.length then zd4 place (lay cells off v.cells.toList) rest else none
def zc7 (env:Env):List (Nat×Operand)→Option (List (Nat×Value))
 |[]=>some []
 |(i,x)::xs=>match zaR env x,zc7 env xs with
  |some v,some vs=>some ((i,v)::vs)
  |_,_=>none
def zih (T:Tab)(env:Env)(t:TypeId)(parts:List (Nat×Operand)):Option (List Value):=
 match T.lookup t with
 |some ⟨.struct fs,_,_,z⟩=>match zdt T fs.toList,zc7 env parts with
  |some ps,some vs=>zd4 (fun i=>ps[i]?) z.cells.toList vs
  |_,_=>none
 |some ⟨.array _ e,_,_,z⟩=>match T.lookup e,zc7 env parts with
  |some ti,some vs=>zd4 (fun i=>some (i*ti.size,ti.size)) z.cells.toList vs
  |_,_=>none
 |_=>none
section
variable {P : Program} {W : World} {T : Tab} {N : Nat} {env env' : Env} {h h' h2 : List zah} {kf : KF} {ops : Array Oper} {K : Env → List zah → Prop} {o : Oper} {rest : List Oper} {Q : Exit → Env → List zah → Prop}
theorem zbg.parts {a:Act}(ha:zbg N env a):∀{xs:List (Nat×Operand)} {vs:List (Nat×Value)},zc7 env xs=some vs→xs.map (fun p=>(p.1,a.eval p.2))=vs
 |[],vs,hx=>by simp[zc7]at hx;simp[hx]
 |(i,x)::xs,vs,hx=>by
  unfold zc7 at hx
  split at hx
  ·rename_i v us h1 h2
   injection hx with hx
   subst hx
   simp[ha.eval h1,ha.parts h2]
  ·cases hx
theorem zeS (hT:zba P T)(w:World):∀{fs:List Field} {ps:List (Nat×Nat)},zdt T fs=some ps→
 (fs.mapM (fun f:Field=>(do pure (f.offset,←Go.sizeOf f.type):Sem (Nat×Nat)))).run P w=.ok ps w
 |[],ps,hp=>by simp[zdt]at hp;subst hp;rfl
 |f::fs,ps,hp=>by
  unfold zdt at hp
  split at hp
  ·rename_i ti qs h1 h2
   injection hp with hp
   subst hp
   have g:=hT _ _ h1
   simp only[List.mapM_cons,Sem.run_bind,g.sz,Result.andThen_ok,Sem.run_pure,zeS hT w h2]
  ·cases hp
theorem zkZ (cells:List Value)(vs:List Value):∀off,off+vs.length≤cells.length→
 (vs.zipIdx.foldl (fun cs (p:Value×Nat)=>cs.set (off+p.2) p.1) cells)=lay cells off vs:=by
 have key:∀(vs:List Value) (k off:Nat) (cells:List Value),off+k+vs.length≤cells.length→
  ((vs.zipIdx k).foldl (fun cs (p:Value×Nat)=>cs.set (off+p.2) p.1) cells)=lay cells (off+k) vs:=by
  intro vs
  induction vs with
  |nil=>intro k off cells _;simp[lay]
  |cons v vs ih=>
   intro k off cells hl
   simp only[List.length_cons]at hl
   rw[List.zipIdx_cons,List.foldl_cons,ih (k+1) off _ (by simp;omega)]
   have:=list_seg_step cells (off+k) v vs (by omega)
   simpa [lay,Nat.add_assoc]using this
 intro off hl
 have:=key vs 0 off cells (by omega)
 simpa using this
theorem zg2 (off:Nat):∀(l:List (Value×Nat)) (cells:Array Value),(l.foldl (fun cs (p:Value×Nat)=>cs.setIfInBounds (off+p.2) p.1) cells).toList=l.foldl (fun cs (p:Value×Nat)=>cs.set (off+p.2) p.1) cells.toList
 |[],_=>rfl
 |p::l,cells=>by rw[List.foldl_cons,List.foldl_cons,zg2 off l];simp
theorem ze8 (place:Nat→Option (Nat×Nat)):∀(parts:List (Nat×Value)) (cells:List Value) (cells':List Value),zd4 place cells parts=some cells'→
 Instr.fill place cells.toArray parts=some cells'.toArray
 |[],cells,cells',hf=>by simp[zd4]at hf;simp[Instr.fill,hf]
 |(i,v)::rest,cells,cells',hf=>by
  unfold zd4 at hf
  unfold Instr.fill
  split at hf
  ·cases hf
  ·rename_i off size hp
   split at hf
   ·rename_i hc
    simp only[hp,hc.1,ne_eq,not_true_eq_false,List.size_toArray,decide_false,Bool.false_or,decide_eq_true_eq]
    rw[if_neg (by simp;omega)]
    have e:(v.cells.zipIdx.foldl (fun cs (p:Value×Nat)=>cs.setIfInBounds (off+p.2) p.1) cells.toArray)=(lay cells off v.cells.toList).toArray:=by
     rw[←zkZ cells v.cells.toList off (by simp[hc.1];exact hc.2)]
     apply Array.ext'
     rw[←Array.foldl_toList,zg2]
     simp
    have:=ze8 place rest _ _ hf
    rw[←this,←e]
   ·cases hf
theorem zc8 (hT:zba P T){b:Bool}{d:Tmp}{ty pos af g}{t:TypeId}{parts:Array (Nat×Operand)}{cs:List Value}(hg:zbi ops env g=some b)(hb:b=true)(hd:Nat.blt d N=true)
 (hv:zih T env t parts.toList=some cs)
 (hK:ES P W N kf ops rest ((d,.agg cs.toArray)::env) h K):ES P W N kf ops (⟨some d,.build t parts,ty,pos,af,g⟩::rest) env h K:=
 zbI hg hb hd (fun a ha w=>by
  have ep:∀vs,zc7 env parts.toList=some vs→(parts.map fun(p:Nat×Operand)=>(p.1,a.eval p.2)).toList=vs:=fun vs h=>by rw[←ha.parts h];simp
  unfold zih at hv
  split at hv
  ·rename_i fs s bb z hl
   have gd:=hT _ _ hl
   split at hv
   ·rename_i ps vs h1 h2
    have hf:=ze8 _ _ _ _ hv
    have hp:=zeS hT w h1
    have hu:=gd.1
    have e:=ep vs h2
    simp only[execOp,Instr.build,Sem.run_bind,gd.zv,Result.andThen_ok,run_underlying hu,Array.mapM_eq_mapM_toList,Sem.run_map,hp,e]
    have hf':Instr.fill (fun x=>ps.toArray[x]?) z.cells vs=some cs.toArray:=by simpa using hf
    rw[hf']
    rfl
   ·cases hv
  ·rename_i len e s bb z hl
   have gd:=hT _ _ hl
   split at hv
   ·rename_i ti vs h1 h2
    have gt:=hT _ _ h1
    have hf:=ze8 _ _ _ _ hv
    have hu:=gd.1
    have e:=ep vs h2
    simp only[execOp,Instr.build,Sem.run_bind,gd.zv,Result.andThen_ok,run_underlying hu,gt.sz,e]
    have hf':Instr.fill (fun i=>some (i*ti.size,ti.size)) z.cells vs=some cs.toArray:=by simpa using hf
    rw[hf']
    rfl
   ·cases hv
  ·cases hv) hK
def repZ (z:List Value):Nat→List Value
 |0=>[]
 |n+1=>z++repZ z n
theorem zg3 (z:List Value):∀n,(repZ z n).length=n*z.length
 |0=>by simp[repZ]
 |n+1=>by simp[repZ,zg3 z n,Nat.add_mul,Nat.add_comm]
theorem zii (z:List Value)(hz:0<z.length):∀(n j:Nat),j<n*z.length→(repZ z n)[j]? =z[j%z.length]?
 |0,j,h=>by omega
 |n+1,j,h=>by
  rw[repZ]
  by_cases hj:j<z.length
  ·rw[List.getElem?_append_left hj,Nat.mod_eq_of_lt hj]
  ·rw[List.getElem?_append_right (by omega),zii z hz n _ (by rw[Nat.add_mul]at h;omega)]
   congr 1
   rw[←Nat.mod_eq_sub_mod (by omega)]
theorem zk0 (z:Value)(n:Nat)(hz:0<z.cells.size):(Array.range (n*z.cells.size)).map (fun i=>z.cells[i%z.cells.size]!)=(repZ z.cells.toList n).toArray:=by
 apply Array.ext'
 apply List.ext_getElem?
 intro j
 by_cases hj:j<n*z.cells.size
 ·have hm:=Nat.mod_lt j hz
  rw[show(repZ z.cells.toList n).toArray.toList=repZ z.cells.toList n from rfl,zii _ (by simpa using hz) n j (by simpa using hj)]
  simp[hj,List.getElem?_range,hm]
 ·have h1:(repZ z.cells.toList n)[j]? =none:=List.getElem?_eq_none (by rw[zg3];simpa using hj)
  simp[h1]
  omega
theorem zaI (hT:zba P T){b:Bool}{d:Tmp}{ty pos af g}{t e:TypeId}{ti te:TI}{len:Nat}{parts:Array (Nat×Operand)}{vs:List (Nat×Value)}{cs:List Value}(hg:zbi ops env g=some b)(hb:b=true)(hd:Nat.blt d N=true)
 (hk:(kf ⟨some d,.buildSlice t len parts,ty,pos,af,g⟩).al=true) (ht:T.lookup t=some ti) (htd:ti.desc=.slice e) (hte:T.lookup e=some te) (hsz:(Nat.blt 0 te.zero.cells.size&&(te.zero.cells.size==te.size)&&Nat.ble (len*te.size) 16777216)=true)
 (hv:zc7 env parts.toList=some vs) (hf:zd4 (fun i=>some (i*te.size,te.size)) (repZ te.zero.cells.toList len) vs=some cs) (hl:(cs.length==len*te.size)=true) (h1:cs.all Value.oneCell'=true)
 (hK:∀g',ES P W N kf ops rest ((d,.slice (some ⟨g',0,none⟩) len len)::env) (.own (some ⟨g',0,none⟩) len len e te.size cs::h) K):ES P W N kf ops (⟨some d,.buildSlice t len parts,ty,pos,af,g⟩::rest) env h K:=fun a ha=>by
 subst hb
 simp only[Bool.and_eq_true,beq_iff_eq,Nat.ble_eq,Nat.blt_eq]at hsz hl
 obtain⟨⟨hz0,hz1⟩,hz2⟩:=hsz
 refine zbE (it:=za9 kf ops ⟨some d,.buildSlice t len parts,ty,pos,af,g⟩) (zbc ha hg) (zic hk) (fun w hw=> ?_)
 have g1:=hT _ _ ht
 have g2:=hT _ _ hte
 have hu:=g1.1
 rw[htd]at hu
 have ep:(parts.map fun(p:Nat×Operand)=>(p.1,a.eval p.2)).toList=vs:=by rw[←ha.parts hv];simp
 have hf':=ze8 _ _ _ _ hf
 have hrun:(execOp a.eval ⟨some d,.buildSlice t len parts,ty,pos,af,g⟩).run P w=.ok (.value (.slice (some ⟨w.heap.size,0,none⟩) len len)) (w.alloc (.cells cs.toArray e)):=by
  have hm:=zk0 te.zero len hz0
  have hlen:¬len*te.size>2^24:=by omega
  by_cases h0:len*te.size=0
  ·have hlz:len=0:=by
    rcases Nat.eq_zero_or_pos len with h|h
    ·exact h
    ·have:=Nat.mul_pos h (by omega:0<te.size);omega
   subst hlz
   have hf2:Instr.fill (fun i=>some (i*te.size,te.size)) #[] vs=some cs.toArray:=hf'
   simp only[execOp,Instr.buildSlice,Sem.run_bind,run_underlying hu,Result.andThen_ok,g2.sz,if_neg hlen,if_pos h0,Sem.run_pure,ep]
   have e0:(Array.range (0*te.size)).map (fun i=>(#[]:Array Value)[i%(#[]:Array Value).size]!)= #[]:=by rw[h0];simp
   rw[e0,hf2]
   simp[newRow]
  ·simp only[execOp,Instr.buildSlice,Sem.run_bind,run_underlying hu,Result.andThen_ok,g2.sz,if_neg hlen,if_neg h0,Sem.run_pure,g2.zv,ep]
   have hm2:(Array.range (len*te.size)).map (fun i=>te.zero.cells[i%te.zero.cells.size]!)=(repZ te.zero.cells.toList len).toArray:=by rw[←hm,hz1]
   rw[hm2,hf']
   simp[newRow]
 unfold Oper.wp
 show Oper.upon P _ a _ _ ((execOp a.eval ⟨some d,.buildSlice t len parts,ty,pos,af,g⟩).run P w)
 rw[hrun]
 refine⟨[.own (some ⟨w.heap.size,0,none⟩) len len e te.size cs],?_,hK w.heap.size _ (ha.put (d:=some d) hd)⟩
 refine hw.alloc_own e len te.size cs hl ?_ (fun v hv=>List.all_eq_true.1 h1 v hv)
 have:len≤len*te.size:=Nat.le_mul_of_pos_right _ (by omega)
 simp only[maxLen];omega
/-! ### slicing -/
def cutA (A:Option Addr)(c lo k:Nat):Option Addr:=if c=lo then A else A.map (·.add (lo*k))
theorem zij (hT:zba P T){t e:TypeId}{ti te:TI}{A:Option Addr}{n c lo hi:Nat}(ht:T.lookup t=some ti)(htd:ti.desc=.slice e)(hte:T.lookup e=some te)
 (h1:lo≤hi)(h2:hi≤c){lv hv:Option Value}(hlo:(lv=none∧lo=0)∨∃k,lv=some (.int k lo))(hhi:(hv=none∧hi=n)∨∃k,hv=some (.int k hi))(w:World):
 (Instr.sliceAt t (.slice A n c) lv hv none).run P w=.ok (.slice (cutA A c lo te.size) (hi - lo) (c - lo)) w:=by
 have g1:=hT _ _ ht
 have g2:=hT _ _ hte
 have hu:=g1.1
 rw[htd]at hu
 simp only[Instr.sliceAt,Sem.run_bind,run_underlying hu,Result.andThen_ok,Instr.slice,g2.sz]
 have hb:(Instr.sliceBounds true n c lv hv none).run P w=.ok (lo,hi,c) w:=by
  rcases hlo with ⟨rfl,rfl⟩|⟨k1,rfl⟩<;>rcases hhi with ⟨rfl,rfl⟩|⟨k2,rfl⟩<;>
   simp[Instr.sliceBounds,Instr.sliceBound,asIntOf,h1,h2]
 simp only[hb,Result.andThen_ok,Sem.run_pure,cutA]
def optE (env:Env):Option Operand→Option (Option Value)
 |none=>some none
 |some x=>(zaR env x).map some
theorem zjS (hT:zba P T){b:Bool}{d:Tmp}{ty pos af g}{t e:TypeId}{ti te:TI}{x:Operand}{lo hi:Option Operand}{A:Option Addr}{n c:Nat}{lv hv:Option Value}(hg:zbi ops env g=some b)(hb:b=true)(hd:Nat.blt d N=true)
 (ht:T.lookup t=some ti) (htd:ti.desc=.slice e) (hte:T.lookup e=some te) (hx:zaR env x=some (.slice A n c)) (hlv:optE env lo=some lv) (hhv:optE env hi=some hv)
 (l r:Nat) (hl:(lv=none∧l=0)∨∃k,lv=some (.int k l)) (hr:(hv=none∧r=n)∨∃k,hv=some (.int k r)) (h1:l≤r) (h2:r≤c) {A':Option Addr} (hA:cutA A c l te.size=A')
 (hK:ES P W N kf ops rest ((d,.slice A' (r - l) (c - l))::env) h K):ES P W N kf ops (⟨some d,.slice t x lo hi none,ty,pos,af,g⟩::rest) env h K:=
 zbI hg hb hd (fun a ha w=>by
  have e1:∀(o:Option Operand) v,optE env o=some v→o.map a.eval=v:=fun o v ho=>by
   cases o with
   |none=>simpa [optE]using ho
   |some x=>
    simp only[optE]at ho
    cases hq:zaR env x with
    |none=>simp[hq]at ho
    |some u=>simp only[hq,Option.map_some,Option.some.injEq]at ho;simp[ha.eval hq,ho]
  have:=zij hT ht htd hte (A:=A) (n:=n) h1 h2 hl hr w
  rw[hA]at this
  simp only[execOp,ha.eval hx,e1 _ _ hlv,e1 _ _ hhv,Option.map_none,Sem.run_bind,this,Result.andThen_ok,Sem.run_pure]) hK
theorem zik (A:Option Addr)(c k:Nat):cutA A c 0 k=A:=by
 unfold cutA
 split
 ·rfl
 ·cases A<;>simp[Addr.add]
/-- s[:hi] -/
theorem zht (hT:zba P T){b:Bool}{d:Tmp}{ty pos af g}{t e:TypeId}{ti te:TI}{x hi:Operand}{A:Option Addr}{n c:Nat}{k:IntKind}{r:Int}(hg:zbi ops env g=some b)(hb:b=true)(hd:Nat.blt d N=true)
 (ht:T.lookup t=some ti) (htd:ti.desc=.slice e) (hte:T.lookup e=some te) (hx:zaR env x=some (.slice A n c)) (hhv:zaR env hi=some (.int k r))
 (h1:0≤r) (h2:r≤c)
 (hK:ES P W N kf ops rest ((d,.slice A r.toNat c)::env) h K):ES P W N kf ops (⟨some d,.slice t x none (some hi) none,ty,pos,af,g⟩::rest) env h K:=by
 obtain⟨r,rfl⟩:=Int.eq_ofNat_of_zero_le h1
 exact zjS hT hg hb hd ht htd hte hx (lo:=none) (hi:=some hi) rfl (by simp only[optE,hhv];rfl) 0 r (.inl ⟨rfl,rfl⟩) (.inr ⟨k,rfl⟩) (Nat.zero_le _) (by omega) (zik A c _) (by simpa using hK)
/-- a region whose order is drawn, walked in the order of its text -/
theorem zar {id:Nat}{ol:List Oper}(q al:List FuncId)(hm:P.follows .mixedOrders=true)
 (hp:(Region.noSelect ol.toArray&&zdW (kdOf (kfD q al) ol.toArray) ol.toArray (Region.before ol.toArray) (List.range ol.length) (Array.replicate ol.length false))=true)
 (hes:ES P W N (kfD q al) ol.toArray ol env h fun env' h'=>Q .normal env' h'):AW P W N (.region id ol.toArray true) env h Q:=by
 refine zkX q al (List.range ol.length) hm ?_ ?_ hes
 ·simpa using hp
 ·have key:∀(l m:List Oper),(List.range' m.length l.length).filterMap ((m++l)[·]?)=l:=by
   intro l
   induction l with
   |nil=>intro m;rfl
   |cons o l ih=>
    intro m
    rw[List.length_cons,List.range'_succ,List.filterMap_cons]
    have:(m++o::l)[m.length]? =some o:=by simp
    rw[this]
    have e:=ih (m++[o])
    simp only[lla,List.length_cons,List.length_nil,List.append_assoc,List.singleton_append]at e
    simp only[List.cons.injEq,true_and]
    exact e
  have:=key ol []
  rw[List.range_eq_range']
  simpa using this
/-! ### append -/
theorem ze9 {w:World}{B:Nat}{t ty e:TypeId}{te:TI}(ht:P.underlying t=some (.slice e))(hte:zaE P e te)(hzs:te.zero.cells.size=te.size)(hsz:0<te.size)
 {A A2:Option Addr} {n c m c2:Nat} {cs news:List Value} (hown:w.ownsRow B e te.size (.slice A n c) n cs) (hl:news.length=m*te.size) (hnews:∀j v,news[j]? =some v→A2.isSome=true∧w.cell? (adr A2 j)=some v) (h1:∀v∈news,v.oneCell'=true)
 (h63:n+m≤maxLen)(hbytes:(n+m)*te.bytes≤140737488355328)(hbase:B≤w.heap.size):
 ∃A' c' w',(Builtin.append_ #[t,t] ty #[.slice A n c,.slice A2 m c2]).run P w=.ok (.slice A' (n+m) c') w'∧w'.ownsRow B e te.size (.slice A' (n+m) c') (n+m) (cs++news)∧w.grownBy w' (A.map (·.block))∧
  (A'.map (·.block)=A.map (·.block)∨A'.map (·.block)=some w.heap.size):=by
 obtain⟨hu,i,hi,s1,s2,s3⟩:=hte
 have hob:∀(A:Option Addr) n c,(Value.slice A n c).ownBlock=A.map (·.block):=fun A n c=>by cases A<;>rfl
 cases A2 with
 |some ad=>
  have hn2:∀j v,news[j]? =some v→w.cell? (ad.add j)=some v:=fun j v hv=>(hnews j v hv).2
  obtain⟨v',w',k1,k2,k3,_,k5⟩:=run_append_own_at (P:=P) w B t ty e i te.zero te.size te.bytes ht hi s3 s1 s2 hzs hsz _ n cs hown ad m c2 news hl hn2 h1 h63 hbytes hbase
  rcases k2.2 with ⟨rfl,h0⟩|⟨gg,cap,cur,rfl,rst⟩
  ·refine⟨none,0,w',by rw[h0];exact k1,by rw[h0]at k2 ⊢;exact k2,by simpa [hob]using k3,by simpa [hob]using k5⟩
  ·exact⟨some ⟨gg,0,none⟩,cap,w',k1,k2,by simpa [hob]using k3,by simpa [hob]using k5⟩
 |none=>
  have hn0:news=[]:=by
   cases news with
   |nil=>rfl
   |cons v vs=>have:=(hnews 0 v rfl).1;simp at this
  subst hn0
  have hm0:m=0:=by
   rcases Nat.eq_zero_or_pos m with h|h
   ·exact h
   ·have:=Nat.mul_pos h hsz;simp at hl;omega
  subst hm0
  refine⟨A,c,w,?_,by simpa using hown,World.grownBy.refl w _,.inl rfl⟩
  rcases hown.2 with ⟨hv,hn⟩|⟨g,cap,cur,hv,_,_,hnc,_⟩
  ·injection hv with e1 e2 e3
   subst e1 e2 e3
   simp[Builtin.append_,run_underlying ht,Go.sizeOf,typeInfo,hi,Builtin.lenOf,Builtin.firstCells]
  ·injection hv with e1 e2 e3
   subst e1 e3
   simp[Builtin.append_,run_underlying ht,Go.sizeOf,typeInfo,hi,Builtin.lenOf,Builtin.firstCells,hnc,storeCells]
theorem zhu {w w':World}{A A':Option Addr}{n c m c' k:Nat}{e:TypeId}{cs news:List Value}(hw:Rep W (.own A n c e k cs::h) w)
 (k2:w'.ownsRow W.heap.size e k (.slice A' (n+m) c') (n+m) (cs++news))(k3:w.grownBy w' (A.map (·.block)))(k5:A'.map (·.block)=A.map (·.block)∨A'.map (·.block)=some w.heap.size)(h1:∀v∈news,v.oneCell'=true):
 Rep W (.own A' (n+m) c' e k (cs++news)::h) w':=by
 have ho:=hw.holds _ mem0
 refine hw.change k3 (fun g hg=>by simp only[zah.keys];rw[hg];simp) ⟨k2,fun v hv=> ?_⟩ (fun g hg=> ?_)
 ·rcases lma.1 hv with hv|hv
  ·exact ho.2 v hv
  ·exact h1 v hv
 ·simp only[zah.keys]at hg ⊢
  rcases k5 with k5|k5
  ·rw[k5]at hg;exact .inl hg
  ·rw[k5]at hg;right;simp at hg;omega
theorem za2 (hT:zba P T){b:Bool}{d:Tmp}{ty pos af g}{t e:TypeId}{ti te:TI}{s x:Operand}{A A2:Option Addr}{n c m c2:Nat}{cs news:List Value}(hg:zbi ops env g=some b)(hb:b=true)(hd:Nat.blt d N=true)
 (hk:(kf ⟨some d,.call {callee:=.builtin .append,args:= #[s,x],argTypes:= #[t,t]},ty,pos,af,g⟩).wr=true)
 (ht:T.lookup t=some ti) (htd:ti.desc=.slice e) (hte:T.lookup e=some te) (hsz:(Nat.blt 0 te.size&&(te.zero.cells.size==te.size))=true)
 (hs:zaR env s=some (.slice A n c)) (hx:zaR env x=some (.slice A2 m c2)) (hp:h.Perm (.own A n c e te.size cs::h')) (hr:zaD W h A2 m te.size news)
 (h63:n+m≤9223372036854775807) (hbytes:(n+m)*te.bytes≤140737488355328)
 (hK:∀A' c',ES P W N kf ops rest ((d,.slice A' (n+m) c')::env) (.own A' (n+m) c' e te.size (cs++news)::h') K):
 ES P W N kf ops (⟨some d,.call {callee:=.builtin .append,args:= #[s,x],argTypes:= #[t,t]},ty,pos,af,g⟩::rest) env h K:=fun a ha=>by
 subst hb
 simp only[Bool.and_eq_true,beq_iff_eq,Nat.blt_eq]at hsz
 refine zbs (it:=za9 kf ops ⟨some d,.call {callee:=.builtin .append,args:= #[s,x],argTypes:= #[t,t]},ty,pos,af,g⟩) (zbc ha hg) (zhr hk) (fun w hw=> ?_)
 have hw':=hw.perm hp
 have g1:=(hT _ _ ht).1
 rw[htd]at g1
 have hws:RepS W h w:=hw.weak fun _ hc=>hc
 obtain⟨A',c',w',k1,k2,k3,k5⟩:=ze9 (P:=P) (w:=w) (B:=W.heap.size) (ty:=ty) (c2:=c2) g1 (hT _ _ hte) hsz.2 hsz.1 (hw'.holds _ mem0).1 hr.1 (hr.2.2 w hws) hr.2.1 (by simpa [maxLen]using h63) hbytes hw.below.size
 have hrun:(execOp a.eval ⟨some d,.call {callee:=.builtin .append,args:= #[s,x],argTypes:= #[t,t]},ty,pos,af,g⟩).run P w=.ok (.value (.slice A' (n+m) c')) w':=by
  simp[execOp,resolve,invoke,builtin,ha.eval hs,ha.eval hx,k1]
 unfold Oper.wp
 show Oper.upon P _ a _ _ ((execOp a.eval ⟨some d,.call {callee:=.builtin .append,args:= #[s,x],argTypes:= #[t,t]},ty,pos,af,g⟩).run P w)
 rw[hrun]
 exact⟨_,zhu hw' k2 k3 k5 hr.2.1,hK A' c' _ (ha.put (d:=some d) hd)⟩
end
end Go.Sl
set_option linter.unusedSimpArgs false
set_option linter.unusedVariables false
namespace Go.Sl
open Go Go.RowKit
section
variable {P : Program} {W : World} {T : Tab} {N : Nat} {env env' : Env} {h h' h2 : List zah} {kf : KF} {ops : Array Oper} {K : Env → List zah → Prop} {o : Oper} {rest : List Oper} {Q : Exit → Env → List zah → Prop}
/-! ### a row laid open to its whole block, and shut again -/
theorem zbG {c:Code}(hc:∀w,Rep W h w→∃h2,Rep W h2 w∧AW P W N c env h2 Q):AW P W N c env h Q:=fun a w ha hw=>
 let ⟨_,hw2,h3⟩:=hc w hw;h3 a w ha hw2
theorem zil {c:Code}(hp:h.Perm h2)(hc:AW P W N c env h2 Q):AW P W N c env h Q:=fun a w ha hw=>hc a w ha (hw.perm hp)
/-- the facts of a row of the call's own -/
theorem zim {c:Code}{A:Option Addr}{n cc k:Nat}{e:TypeId}{cs:List Value}(hm:zah.own A n cc e k cs∈h)
 (hc:cs.length=n*k→n≤cc→cc≤9223372036854775807→(0<n→∃g,A=some ⟨g,0,none⟩)→(A=none→cc=0)→(∀v∈cs,v.oneCell'=true)→AW P W N c env h Q):AW P W N c env h Q:=fun a w ha hw=>by
 have ho:=hw.holds _ hm
 refine hc ho.1.1 ?_ ?_ ?_ ?_ ho.2 a w ha hw
 ·rcases ho.1.2 with ⟨hv,hn⟩|⟨g',cap,cur,hv,hb,hg,hnc,_⟩<;>injection hv<;>omega
 ·rcases ho.1.2 with ⟨hv,hn⟩|⟨g',cap,cur,hv,hb,hg,hnc,hcm,_⟩<;>injection hv with _ _ hcc
  ·omega
  ·simp only[maxLen]at hcm;omega
 ·intro h0
  rcases ho.1.2 with ⟨hv,hn⟩|⟨g',cap,cur,hv,_⟩
  ·omega
  ·injection hv with hA _ _;exact⟨g',hA⟩
 ·intro hA
  rcases ho.1.2 with ⟨hv,hn⟩|⟨g',cap,cur,hv,_⟩
  ·injection hv
  ·injection hv with hA' _ _;rw[hA]at hA';cases hA'
theorem zaD.blk {g:Nat}{t:TypeId}{cur:List Value}(hm:zah.blk g t cur∈h){off m k:Nat}{cs:List Value}(hcs:(cur.drop off).take (m*k)=cs)(hl:cs.length=m*k)(h1:∀v∈cs,v.oneCell'=true):zaD W h (some ⟨g,off,none⟩) m k cs:=by
 refine⟨hl,h1,fun w hw j v hj=>⟨rfl,?_⟩⟩
 rw[←hcs]at hj
 simp only[List.getElem?_take,List.getElem?_drop]at hj
 split at hj
 ·simp only[adr,Option.getD_some,ze7,hw.cell_blk hm];exact hj
 ·cases hj
/-! ### plain ones -/
theorem zfz (hT:zba P T){b:Bool}{e:Int}{d:Tmp}{op ty pos af g}(hg:zbi ops env g=some b)(hb:b=true)(hd:Nat.blt d N=true)(hv:zb9 T env op=some (.u64,e))
 (h1:0≤e) (h2:e≤18446744073709551615)
 (hK:ES P W N kf ops rest ((d,.int .u64 e)::env) h K):ES P W N kf ops (⟨some d,op,ty,pos,af,g⟩::rest) env h K:=
 zbI hg hb hd (fun _ ha w=>by rw[zbK hT ha hv w,IntWalk.u64_in e ⟨h1,h2⟩]) hK
/-! ### copy, clear, append in place -/
theorem zaO {c:Code}{A:Option Addr}{n k:Nat}{cs:List Value}(hr:zaD W h A n k cs)(hk:Nat.blt 0 k=true)(hc:(0<n→A.isSome=true)→AW P W N c env h Q):AW P W N c env h Q:=fun a w ha hw=>
 hc (fun hn=>by
  have h1:0<n*k:=Nat.mul_pos hn (by simpa using hk)
  have h2:0<cs.length:=by rw[hr.1];exact h1
  exact(hr.2.2 w (hw.weak fun _ hc=>hc) 0 _ (gge h2)).1) a w ha hw
theorem zaL.conv {f:FuncId}{args:List Value}{R R':Value→List zah→Prop}(hs:zaL P W f args h R)(hc:∀v h',R v h'→∀w,Rep W h' w→∃k,Rep W k w∧R' v k):zaL P W f args h R':=
 ⟨hs.1,fun w hw=>(hs.2 w hw).mono fun _ w' ⟨v,h',e,r,rp⟩=>let ⟨k,rp',r'⟩:=hc v h' r w' rp;⟨v,k,e,r',rp'⟩⟩
theorem zaD.take {A n k cs}(hr:zaD W h A n k cs){i:Nat}(hi:i≤n):zaD W h A i k (cs.take (i*k)):=by
 have hle:i*k≤n*k:=Nat.mul_le_mul_right k hi
 refine⟨by rw[llt,hr.1];omega,fun v hv=>hr.2.1 v (List.mem_of_mem_take hv),fun w hw j v hj=>hr.2.2 w hw j v ?_⟩
 rw[List.getElem?_take]at hj
 split at hj
 ·exact hj
 ·cases hj
/-- what is left over may be thrown away -/
def zaW (h k:List zah):Prop:=∃J,h.Perm (J++k)
theorem zbJ :zaW h h:=⟨[],plr _⟩
theorem zcp {x:zah}(hd:zaW h h'):zaW (x::h) h':=let ⟨J,hp⟩:=hd;⟨x::J,hp.cons x⟩
theorem zbr {c:zah}(hp:h.Perm (c::h2))(hd:zaW h2 h'):zaW h (c::h'):=let ⟨J,hp2⟩:=hd;⟨J,hp.trans ((hp2.cons c).trans List.perm_middle.symm)⟩
theorem zbZ (h1:zaW h h2)(h3:zaW h2 h'):zaW h h':=let ⟨J,p⟩:=h1;let ⟨J2,p2⟩:=h3;⟨J++J2,p.trans (by rw[List.append_assoc];exact(p2.append_left J))⟩
theorem zaW.rep {w:World}{k:List zah}(hd:zaW h k)(hw:Rep W h w):Rep W k w:=let ⟨_,p⟩:=hd;(hw.perm p).drop
theorem zaL.dropTo {f:FuncId}{args:List Value}{R:Value→List zah→Prop}(hs:zaL P W f args h fun v h'=>∃k,zaW h' k∧R v k):zaL P W f args h R:=
 zaL.conv hs fun _ _ ⟨k,hd,hr⟩ _ hw=>⟨k,hd.rep hw,hr⟩
theorem zaF.ofD {f:FuncId}{args:List Value}{v:Value}(hs:∀h',(∀c∈h,c∈h')→zaL P W f args h' fun u k=>u=v∧zaW k h'):zaF P W f args h v:=zaF.of hs
/-! ### the end of a body -/
theorem ret1 {R:Value→List zah→Prop}{t:Tmp}{v:Value}(h1:env.lookup t=some v)(hr:R v h):RetQ P W [.tmp t] R .ret env h:=⟨[v],⟨h1,trivial⟩,hr⟩
theorem ret2 {R:Value→List zah→Prop}{t t2:Tmp}{v v2:Value}(h1:env.lookup t=some v)(h2:env.lookup t2=some v2)(hr:R (.tuple #[v,v2]) h):RetQ P W [.tmp t,.tmp t2] R .ret env h:=⟨[v,v2],⟨h1,h2,trivial⟩,hr⟩
theorem zk1 {R:Value→List zah→Prop}{a:Tmp}{t:TypeId}{ad:Addr}{v:Value}(h1:env.lookup a=some (.pointer (some ad)))(hl:Ld P W h t ad v)(hr:R v h):RetQ P W [.cell a t] R .ret env h:=⟨[v],⟨⟨ad,h1,hl⟩,trivial⟩,hr⟩
theorem zmd {R:Value→List zah→Prop}{a:Tmp}{t:TypeId}{t2:Tmp}{ad:Addr}{v v2:Value}(h1:env.lookup a=some (.pointer (some ad)))(hl:Ld P W h t ad v)(h2:env.lookup t2=some v2)(hr:R (.tuple #[v,v2]) h):RetQ P W [.cell a t,.tmp t2] R .ret env h:=
 ⟨[v,v2],⟨⟨ad,h1,hl⟩,h2,trivial⟩,hr⟩
theorem zfa {v u:Value}{k:List zah}{J:List zah}{t:Tmp}(h1:env.lookup t=some v)(he:v=u)(hp:h.Perm (J++k)):RetQ P W [.tmp t] (fun x k'=>x=u∧∃J,k'.Perm (J++k)) .ret env h:=ret1 h1 ⟨he,J,hp⟩
end
end Go.Sl
set_option linter.unusedSimpArgs false
set_option linter.unusedVariables false
namespace Go.Sl
open Go
structure Due where
 tick:Int
 kind:Int
 id:Int
 deriving DecidableEq
def Due.enc (d:Due):List Value:=[.int .i64 d.tick,.int .i64 d.kind,.int .i64 d.id]
theorem Due.enc_len (d:Due):d.enc.length=3:=rfl
theorem Due.enc_one (d:Due):∀v∈d.enc,v.oneCell'=true:=List.all_eq_true.1 (rfl:d.enc.all Value.oneCell'=true)
structure zaH where
 id:Int
 ask:Int
 dealer:Int
 price:Int
 expires:Int
 live:Bool
 deriving DecidableEq
def zaH.enc (q:zaH):List Value:=[.int .i64 q.id,.int .i64 q.ask,.int .i64 q.dealer,.int .i64 q.price,.int .i64 q.expires,.bool q.live]
theorem zaH.enc_len (d:zaH):d.enc.length=6:=rfl
theorem zaH.enc_one (d:zaH):∀v∈d.enc,v.oneCell'=true:=List.all_eq_true.1 (rfl:d.enc.all Value.oneCell'=true)
structure AskR where
 id:Int
 client:Int
 bond:Int
 side:Int
 qty:Int
 dealers:Int
 ends:Int
 until_:Int
 state:Int
 hit:Int
 deriving DecidableEq
def AskR.enc (a:AskR):List Value:=[.int .i64 a.id,.int .i64 a.client,.int .i64 a.bond,.int .i64 a.side,.int .i64 a.qty,.int .u64 a.dealers,.int .i64 a.ends,.int .i64 a.until_,.int .i64 a.state,.int .i64 a.hit]
theorem AskR.enc_len (d:AskR):d.enc.length=10:=rfl
theorem AskR.enc_one (d:AskR):∀v∈d.enc,v.oneCell'=true:=List.all_eq_true.1 (rfl:d.enc.all Value.oneCell'=true)
structure zav where
 id:Int
 seq:Int
 owner:Int
 side:Int
 price:Int
 left:Int
 deriving DecidableEq
def zav.enc (o:zav):List Value:=[.int .i64 o.id,.int .i64 o.seq,.int .i64 o.owner,.int .i64 o.side,.int .i64 o.price,.int .i64 o.left]
theorem zav.enc_len (d:zav):d.enc.length=6:=rfl
theorem zav.enc_one (d:zav):∀v∈d.enc,v.oneCell'=true:=List.all_eq_true.1 (rfl:d.enc.all Value.oneCell'=true)
/-- the place of the first one that is such; -1: there is none -/
def za0 {α:Type}(p:α→Bool):List α→Int
 |[]=> -1
 |x::l=>if p x then 0 else(let i:=za0 p l;if i<0 then -1 else i+1)
theorem zc9 {α:Type}{p:α→Bool}:∀{l:List α} {i:Nat} {x:α},l[i]? =some x→p x=true→(∀(j:Nat) y,j<i→l[j]? =some y→p y=false)→za0 p l=i
 |[],i,x,h,_,_=>by simp at h
 |y::l,0,x,h,hp,_=>by simp at h;subst h;simp[za0,hp]
 |y::l,i+1,x,h,hp,hn=>by
  have h0:=hn 0 y (by omega) rfl
  have ih:=zc9 (p:=p) (l:=l) (i:=i) (x:=x) (by simpa using h) hp (fun j z hj hz=>hn (j+1) z (by omega) (by simpa using hz))
  have h1:¬((i:Int)<0):=by omega
  simp[za0,h0,ih,h1]
theorem zbA {α:Type}{p:α→Bool}:∀{l:List α},(∀(j:Nat) y,l[j]? =some y→p y=false)→za0 p l= -1
 |[],_=>rfl
 |y::l,hn=>by
  have ih:=zbA (p:=p) (l:=l) (fun(j:Nat) z hz=>hn (j+1) z (by simpa using hz))
  simp[za0,hn 0 y rfl,ih]
theorem zg4 {α:Type}{p:α→Bool}:∀{l:List α},-1≤za0 p l
 |[]=>by simp[za0]
 |y::l=>by
  have ih:=zg4 (p:=p) (l:=l)
  unfold za0
  split
  ·omega
  ·(try dsimp only);split<;>omega
theorem zbt {α:Type}{p:α→Bool}{l:List α}:za0 p l<0↔∀x∈l,p x=false:=by
 constructor
 ·intro h x hx
  induction l with
  |nil=>cases hx
  |cons y l ih=>
   unfold za0 at h
   split at h
   ·omega
   ·rename_i hp
    have h1:za0 p l<0:=by
     simp only at h
     split at h
     ·assumption
     ·omega
    rcases List.mem_cons.1 hx with rfl|hx
    ·simpa using hp
    ·exact ih h1 hx
 ·intro h
  have:=zbA (p:=p) (l:=l) (fun j y hj=>h y (mog hj))
  omega
theorem zd5 {α:Type}{p:α→Bool}:∀{l:List α} {i:Nat},za0 p l=(i:Int)→∃x,l[i]? =some x∧p x=true∧∀(j:Nat) y,j<i→l[j]? =some y→p y=false
 |[],i,h=>by simp[za0]at h
 |y::l,i,h=>by
  unfold za0 at h
  split at h
  ·rename_i hp;obtain rfl:i=0:=by omega
   exact⟨y,rfl,hp,fun j y hj=>absurd hj (Nat.not_lt_zero _)⟩
  ·rename_i hp
   simp only at h
   split at h
   ·omega
   ·obtain⟨k,rfl⟩:∃k,i=k+1:=⟨i - 1,by omega⟩
    obtain⟨x,hx,hpx,hb⟩:=zd5 (p:=p) (l:=l) (i:=k) (by omega)
    refine⟨x,by simpa using hx,hpx,fun j z hj hz=> ?_⟩
    cases j with
    |zero=>simp at hz;subst hz;simpa using hp
    |succ j=>exact hb j z (by omega) (by simpa using hz)
/-- how many are ahead of the place that is looked for -/
def bsN {α:Type}(c:α→Int)(l:List α):Nat:=(l.takeWhile fun x=>decide (c x<0)).length
def bsB {α:Type}(c:α→Int)(l:List α):Bool:=match l[bsN c l]? with
 |some x=>c x==0
 |none=>false
theorem zkM {α:Type}{c:α→Int}:∀{l:List α} {i:Nat},i≤l.length→(∀(k:Nat) y,k<i→l[k]? =some y→c y<0)→(∀y,l[i]? =some y→¬c y<0)→bsN c l=i
 |[],i,h,_,_=>by simp at h;subst h;rfl
 |x::l,0,_,_,h2=>by
  have:=h2 x rfl
  simp[bsN,List.takeWhile_cons,this]
 |x::l,i+1,h,h1,h2=>by
  have h0:=h1 0 x (by omega) rfl
  have ih:=zkM (c:=c) (l:=l) (i:=i) (by simpa using h) (fun k y hk hy=>h1 (k+1) y (by omega) (by simpa using hy)) (fun y hy=>h2 y (by simpa using hy))
  unfold bsN at*
  simp[List.takeWhile_cons,h0,ih]
theorem zbD {α:Type}{p:α→Bool}:∀{l:List α},∀x∈l.take (l.takeWhile p).length,p x=true
 |[],x,h=>by simp at h
 |y::l,x,h=>by
  by_cases hp:p y=true
  ·simp only[List.takeWhile_cons,hp,if_true,List.length_cons,List.take_succ_cons,List.mem_cons]at h
   rcases h with rfl|h
   ·exact hp
   ·exact zbD x h
  ·simp[List.takeWhile_cons,hp]at h
theorem zbN {α:Type}{p:α→Bool}:∀{l:List α} {y:α} {m:List α},l.drop (l.takeWhile p).length=y::m→p y=false
 |[],y,m,h=>by simp at h
 |x::l,y,m,h=>by
  by_cases hp:p x=true
  ·simp only[List.takeWhile_cons,hp,if_true,List.length_cons,List.drop_succ_cons]at h
   exact zbN h
  ·simp only[List.takeWhile_cons,hp,Bool.false_eq_true,if_false,List.length_nil,List.drop_zero]at h
   injection h with h1 h2
   subst h1
   simpa using hp
/-- put where it belongs -/
theorem zlM {α:Type}{f:α→Int}{m:List α}{q:α}(h:m.Pairwise fun a b=>f a<f b)(hn:∀x∈m,f x≠f q){n:Nat}(hnn:n=(m.takeWhile fun x=>decide (f x<f q)).length):(m.take n++[q]++m.drop n).Pairwise fun a b=>f a<f b:=by
 subst hnn
 have hl:∀x∈m.take (m.takeWhile fun x=>decide (f x<f q)).length,f x<f q:=fun x hx=>by
  have:=zbD (p:=fun x=>decide (f x<f q)) (l:=m) x hx
  simpa using this
 have hsplit:m.take (m.takeWhile fun x=>decide (f x<f q)).length++m.drop (m.takeWhile fun x=>decide (f x<f q)).length=m:=List.take_append_drop _ _
 have hp:=h
 rw[←hsplit,List.pairwise_append]at hp
 obtain⟨p1,p2,p3⟩:=hp
 have hr:∀y∈m.drop (m.takeWhile fun x=>decide (f x<f q)).length,f q<f y:=fun y hy=>by
  cases hm:m.drop (m.takeWhile fun x=>decide (f x<f q)).length with
  |nil=>rw[hm]at hy;cases hy
  |cons z r=>
   have hz:=zbN (p:=fun x=>decide (f x<f q)) (l:=m) hm
   have hzl:z∈m:=List.mem_of_mem_drop (by rw[hm];simp)
   have hz1:=hn z hzl
   have hdz:f q<f z:=by simp at hz;omega
   rw[hm]at hy p2
   rcases List.mem_cons.1 hy with rfl|hy
   ·exact hdz
   ·have:=List.rel_of_pairwise_cons p2 hy;omega
 rw[List.append_assoc,List.pairwise_append]
 refine⟨p1,?_,fun x hx y hy=> ?_⟩
 ·rw[List.singleton_append,List.pairwise_cons]
  exact⟨hr,p2⟩
 ·rw[List.singleton_append]at hy
  rcases List.mem_cons.1 hy with rfl|hy
  ·exact hl x hx
  ·exact p3 x hx y hy
theorem zdP {α:Type}(l:List α)(q:α)(i:Nat):(l.take i++[q]++l.drop i).Perm (q::l):=by
 rw[List.append_assoc,List.singleton_append]
 exact List.perm_middle.trans (by rw[List.take_append_drop])
end Go.Sl
set_option linter.unusedSimpArgs false
set_option linter.unusedVariables false
namespace Go.Sl
open Go Go.RowKit
section
variable {P : Program} {W : World} {T : Tab} {N : Nat} {env env' : Env} {h h' h2 : List zah} {kf : KF} {ops : Array Oper} {K : Env → List zah → Prop} {o : Oper} {rest : List Oper}
theorem zjT (a:Int)(m:Nat)(hm:m≤9223372036854775807):∃n:Nat,n≤m∧∀w:World,(Op.intBits .and .i64 a (m:Int)).run P w=.ok (.int .i64 (n:Int)) w:=by
 have hb:(BitVec.ofInt 64 a &&& BitVec.ofInt 64 (m:Int)).toNat≤m:=by
  rw[BitVec.toNat_and]
  refine Nat.le_trans Nat.and_le_right ?_
  rw[BitVec.ofInt_natCast,BitVec.toNat_ofNat]
  exact Nat.mod_le _ _
 refine⟨(BitVec.ofInt 64 a &&& BitVec.ofInt 64 (m:Int)).toNat,hb,fun w=> ?_⟩
 show(pure (Value.int .i64 (IntKind.i64.wrap ((BitVec.ofInt 64 a &&& BitVec.ofInt 64 (m:Int)).toNat:Int))):Sem Value).run P w=_
 rw[Sem.run_pure,IntWalk.i64_in _ ⟨by omega,by omega⟩]
/-- 'x & m', m a number that is not negative -/
theorem zk2 {b:Bool}{e:Int}{m:Nat}{d:Tmp}{t yt:TypeId}{x y:Operand}{ty pos af g}(hg:zbi ops env g=some b)(hb:b=true)(hd:Nat.blt d N=true)(hx:zaR env x=some (.int .i64 e))(hy:zaR env y=some (.int .i64 (m:Int)))(hm:m≤9223372036854775807)
 (hK:∀n:Nat,n≤m→ES P W N kf ops rest ((d,.int .i64 (n:Int))::env) h K):ES P W N kf ops (⟨some d,.binOp .and t x y yt,ty,pos,af,g⟩::rest) env h K:=by
 obtain⟨n,hn,hr⟩:=zjT (P:=P) e m hm
 exact zbI hg hb hd (fun a ha w=>by simp[execOp,ha.eval hx,ha.eval hy,eqGuard,binOp,hr]) (hK n hn)
theorem zin {b:Bool}{e f:Int}{k:IntKind}{d:Tmp}{t yt:TypeId}{x y:Operand}{ty pos af g}(hg:zbi ops env g=some b)(hb:b=true)(hd:Nat.blt d N=true)(hx:zaR env x=some (.int k e))(hy:zaR env y=some (.int k f))(he:0≤e)(hf:0<f)
 (hK:ES P W N kf ops rest ((d,.int k (e%f))::env) h K):ES P W N kf ops (⟨some d,.binOp .rem t x y yt,ty,pos,af,g⟩::rest) env h K:=
 zbI hg hb hd (fun a ha w=>by
  have h1:f≠0:=by omega
  simp[execOp,ha.eval hx,ha.eval hy,eqGuard,binOp,Op.intDiv,h1,Int.tmod_eq_emod_of_nonneg he]) hK
/-! ### structs that are compared -/
def zg5 (P:Program)(t:TypeId):Prop:=P.stoodInHeld t=false∧P.eqGuardType P.depth t=false
end
/-- one element of a row turned -/
theorem zfb {α:Type}{enc:α→List Value}{k:Nat}(hk:∀x,(enc x).length=k):∀{l:List α} {i f:Nat} {x x':α} {vs:List Value},l[i]? =some x→f+vs.length≤k→enc x'=lay (enc x) f vs→lay (l.flatMap enc) (i*k+f) vs=(l.set i x').flatMap enc
 |[],i,f,x,x',vs,h,_,_=>by simp at h
 |y::l,0,f,x,x',vs,h,hf,he=>by
  simp at h;subst h
  simp only[List.set_cons_zero,List.flatMap_cons,he,lay,Nat.zero_mul,Nat.zero_add]
  rw[List.take_append_of_le_length (by rw[hk];omega),List.drop_append_of_le_length (by rw[hk];omega)]
  simp
 |y::l,i+1,f,x,x',vs,h,hf,he=>by
  have ih:=zfb hk (l:=l) (i:=i) (f:=f) (x':=x') (vs:=vs) (by simpa using h) hf he
  simp only[List.set_cons_succ,List.flatMap_cons,←ih,lay]
  have e:(i+1)*k+f=(enc y).length+(i*k+f):=by rw[hk,Nat.succ_mul];omega
  rw[e,List.take_length_add_append,show(enc y).length+(i*k+f)+vs.length=(enc y).length+(i*k+f+vs.length)by omega,List.drop_length_add_append]
  simp
/-- what a row that is owned is -/
structure OwnF (A:Option Addr)(n c k:Nat)(cs:List Value):Prop where
 len:cs.length=n*k
 nc:n≤c
 cc:c≤9223372036854775807
 some_:0<n→A.isSome=true
 at_:0<n→∃g,A=some ⟨g,0,none⟩
 none_:A=none→c=0
 one:∀v∈cs,v.oneCell'=true
theorem Rep.ownF {W w:World}{h:List zah}(hw:Rep W h w){A:Option Addr}{n cc k:Nat}{e:TypeId}{cs:List Value}(hm:zah.own A n cc e k cs∈h):OwnF A n cc k cs:=by
 have ho:=hw.holds _ hm
 have hat:0<n→∃g,A=some ⟨g,0,none⟩:=by
  intro h0
  rcases ho.1.2 with ⟨hv,hn⟩|⟨g',cap,cur,hv,_⟩
  ·omega
  ·injection hv with hA _ _;exact⟨g',hA⟩
 refine⟨ho.1.1,?_,?_,fun h0=>by obtain⟨g,hg⟩:=hat h0;rw[hg];rfl,hat,?_,ho.2⟩
 ·rcases ho.1.2 with ⟨hv,hn⟩|⟨g',cap,cur,hv,hb,hg,hnc,_⟩<;>injection hv<;>omega
 ·rcases ho.1.2 with ⟨hv,hn⟩|⟨g',cap,cur,hv,hb,hg,hnc,hcm,_⟩<;>injection hv with _ _ hcc
  ·omega
  ·simp only[maxLen]at hcm;omega
 ·intro hA
  rcases ho.1.2 with ⟨hv,hn⟩|⟨g',cap,cur,hv,_⟩
  ·injection hv
  ·injection hv with hA' _ _;rw[hA]at hA';cases hA'
theorem OwnF.reads {W:World}{h:List zah}{A n c k cs}{t:TypeId}(ho:OwnF A n c k cs)(hm:zah.own A n c t k cs∈h):zaD W h A n k cs:=zaD.own hm ho.len ho.one
theorem zio {h J k:List zah}(hd:zaW h k):zaW (J++h) k:=let ⟨J2,p⟩:=hd;⟨J++J2,by rw[List.append_assoc];exact p.append_left J⟩
theorem zip {h F B:List zah}{c:zah}(hd:zaW h (c::(F++B))):zaW h (F++c::B):=let ⟨J,p⟩:=hd;⟨J,p.trans (List.perm_middle.symm.append_left J)⟩
theorem zaL.dropF {P:Program}{W:World}{f:FuncId}{args:List Value}{h:List zah}{R:Value→List zah→Prop}(hs:zaL P W f args h fun v h'=>∃k,zaW h' k∧∀w,Rep W k w→R v k):zaL P W f args h R:=
 zaL.conv hs fun _ _ ⟨k,hd,hr⟩ w hw=>⟨k,hd.rep hw,hr w (hd.rep hw)⟩
theorem zaM {α:Type}{E:α→Env}{H:α→List zah}{μ:α→Nat}{S:α→Prop}{x:α}{Q:Exit→Env→List zah→Prop}{env:Env}{h:List zah}(y:α)(h1:μ y<μ x)(h2:S y)(h3:Sub env (E y))(h4:zaW h (H y)):zkY E H μ S x Q .normal env h:=
 let ⟨J,p⟩:=h4;⟨y,J,h1,h2,h3,p⟩
theorem zgo {h k:List zah}(hp:h.Perm k):zaW h k:=⟨[],hp⟩
end Go.Sl
set_option linter.unusedSimpArgs false
set_option linter.unusedVariables false
namespace Go.Sl
open Go Go.RowKit Go.ChangeShapes Go.WideShapes
/-! ### leaves -/
inductive Leaf where
 |int (k:IntKind)
 |bool
 deriving DecidableEq
def Leaf.fits :Leaf→Value→Prop
 | .int k,v=>∃n,v=.int k n∧(Lit.int k n).wf=true
 | .bool,v=>∃b,v=.bool b
def zbO :List Leaf→List Value→Prop
 |[],[]=>True
 |l::ls,v::vs=>l.fits v∧zbO ls vs
 |_,_=>False
theorem zbO.len :∀{ls:List Leaf} {vs:List Value},zbO ls vs→vs.length=ls.length
 |[],[],_=>rfl
 |l::ls,v::vs,h=>by simp[zbO.len h.2]
theorem zbO.app :∀{ls ms:List Leaf} {vs us:List Value},zbO ls vs→zbO ms us→zbO (ls++ms) (vs++us)
 |[],_,[],_,_,h=>h
 |l::ls,_,v::vs,_,h,h2=>⟨h.1,zbO.app h.2 h2⟩
theorem zbO.one :∀{ls:List Leaf} {vs:List Value},zbO ls vs→∀v∈vs,v.oneCell'=true
 |[],[],_,v,hv=>by cases hv
 |l::ls,u::vs,h,v,hv=>by
  rcases List.mem_cons.1 hv with rfl|hv
  ·cases l with
   |int k=>obtain⟨n,rfl,_⟩:=h.1;rfl
   |bool=>obtain⟨b,rfl⟩:=h.1;rfl
  ·exact zbO.one h.2 v hv
def zfA (P:Program)(lf:TypeId→Option (List Leaf)):List Field→Nat→Option (List Leaf)
 |[],_=>some []
 |f::fs,o=>if f.offset=o then match lf f.type with
   |some l=>if P.cellsOf f.type=l.length then(match zfA P lf fs (o+l.length)with
    |some m=>some (l++m)
    |none=>none)else none
   |none=>none
  else none
def ziq (P:Program):Nat→TypeId→Option (List Leaf)
 |0,_=>none
 |n+1,t=>match P.underlying t with
  |some (.int k)=>some [.int k]
  |some .bool=>some [.bool]
  |some (.struct fs)=>zfA P (ziq P n) fs.toList 0
  |some (.array m e)=>match ziq P n e with
   |some l=>if P.cellsOf e=l.length then some ((List.replicate m l).flatten)else none
   |none=>none
  |_=>none
section
variable {H : Type} {enc : TypeId × Value → H} {P : Program} {w : World} {base : Nat} {spare : Nat → Bool} {held : Bool}
theorem zfc {α:Type}(cs:List α)(o n:Nat):cs.drop o=(cs.drop o).take n++cs.drop (o+n):=by
 rw[←List.drop_drop,List.take_append_drop]
theorem zd6 {lf:TypeId→Option (List Leaf)}{cs:List Value}{m:Nat}
 (hlf:∀t l cs' x,lf t=some l→cs'.length=l.length→DataW.trod enc P w base spare held m t cs'=some x→zbO l cs'):
 ∀(fs:List Field) (o:Nat) (ls:List Leaf),zfA P lf fs o=some ls→cs.length=o+ls.length→
  (∀f∈fs,∃x,DataW.trod enc P w base spare held m f.type ((cs.drop f.offset).take (P.cellsOf f.type))=some x)→zbO ls (cs.drop o)
 |[],o,ls,hl,hlen,_=>by
  simp only[zfA,Option.some.injEq]at hl
  subst hl
  rw[List.drop_of_length_le (by simp at hlen;omega)]
  trivial
 |f::fs,o,ls,hl,hlen,hx=>by
  unfold zfA at hl
  split at hl
  ·rename_i ho
   split at hl
   ·rename_i l h1
    split at hl
    ·rename_i h2
     split at hl
     ·rename_i k h3
      injection hl with hl
      subst hl
      rw[lla]at hlen
      obtain⟨x,hx1⟩:=hx f (by simp)
      rw[ho,h2]at hx1
      rw[zfc cs o l.length]
      exact(hlf _ _ _ _ h1 (by simp;omega) hx1).app (zd6 hlf fs (o+l.length) k h3 (by omega) (fun g hg=>hx g (by simp[hg])))
     ·cases hl
    ·cases hl
   ·cases hl
  ·cases hl
theorem zjU {l:List Leaf}{cs:List Value}:∀(m:Nat),cs.length=m*l.length→(∀i,i<m→zbO l ((cs.drop (i*l.length)).take l.length))→zbO ((List.replicate m l).flatten) cs:=by
 intro m
 induction m generalizing cs with
 |zero=>
  intro h _
  have:cs=[]:=List.length_eq_zero_iff.1 (by simpa using h)
  subst this
  trivial
 |succ m ih=>
  intro h hi
  rw[List.replicate_succ,List.flatten_cons,←List.take_append_drop l.length cs]
  have h0:=hi 0 (by omega)
  simp only[Nat.zero_mul,List.drop_zero]at h0
  refine h0.app (ih (by rw[List.length_drop,h,Nat.succ_mul];omega) (fun i him=> ?_))
  have:=hi (i+1) (by omega)
  rw[List.drop_drop]
  rwa[show l.length+i*l.length=(i+1)*l.length by rw[Nat.succ_mul];omega]
theorem zdu :∀(n fuel:Nat) (t:TypeId) (ls:List Leaf) (cs:List Value) (x:DataW H×List MemPlace),ziq P n t=some ls→cs.length=ls.length→DataW.trod enc P w base spare held fuel t cs=some x→zbO ls cs
 |0,_,_,_,_,_,h,_,_=>by cases h
 |n+1,fuel,t,ls,cs,x,h,hlen,hd=>by
  unfold ziq at h
  split at h
  ·rename_i k ht
   injection h with h;subst h
   obtain⟨m,rfl,_,hw⟩:=DataW.trod_int ht hd
   exact⟨⟨m,rfl,hw⟩,trivial⟩
  ·rename_i ht
   injection h with h;subst h
   obtain⟨b,rfl,_⟩:=DataW.trod_bool ht hd
   exact⟨⟨b,rfl⟩,trivial⟩
  ·rename_i fs ht
   obtain⟨xs,m,rfl,_,_,hxl,hf⟩:=DataW.trod_struct ht hd
   have:=zd6 (enc:=enc) (P:=P) (w:=w) (base:=base) (spare:=spare) (held:=held) (cs:=cs) (m:=m) (fun t l cs' x h1 h2 h3=>zdu n m t l cs' x h1 h2 h3) fs.toList 0 ls h (by omega) (fun f hfm=>by
    obtain⟨i,hi⟩:=List.getElem?_of_mem hfm
    rw[Array.getElem?_toList]at hi
    have h1:=hf i f hi
    have hil:i<xs.length:=by rw[hxl];exact(Array.getElem?_eq_some_iff.1 hi).1
    exact⟨xs[i],by rw[h1,gge hil]⟩)
   simpa using this
  ·rename_i m e ht
   split at h
   ·rename_i l hl
    split at h
    ·rename_i hc
     injection h with h;subst h
     obtain⟨xs,k,rfl,_,_,hxl,hf⟩:=DataW.trod_array ht hd
     have hcl:cs.length=m*l.length:=by rw[hlen];simp
     refine zjU m hcl (fun i hi=> ?_)
     have h1:=hf i hi
     rw[hc]at h1
     have hil:i<xs.length:=by omega
     refine zdu n k e l _ xs[i] hl ?_ (by rw[h1,gge hil])
     have:(i+1)*l.length≤m*l.length:=Nat.mul_le_mul_right _ (by omega)
     rw[Nat.succ_mul]at this
     simp;omega
    ·cases h
   ·cases h
  ·cases h
end
theorem zk3 {W:World}{a:Addr}{n k:Nat}{cs:List Value}(hl:cs.length=n*k)(h1:∀v∈cs,v.oneCell'=true)(hc:∀j v,cs[j]? =some v→W.cell? (a.add j)=some v):zaD W [] (some a) n k cs:=
 ⟨hl,h1,fun w hw j v hj=>⟨rfl,by
   have h2:=hc j v hj
   show w.cell? (a.add j)=some v
   rw[hw.below.cell (World.block_lt_of_cell? W _ h2),h2]⟩⟩
/-- rows of cells, each as its leaves say, read as a list -/
theorem zfB {α:Type}{en:α→List Value}{ok:α→Prop}{ls:List Leaf}(hdec:∀vs,zbO ls vs→∃x,en x=vs∧ok x)(R:Nat→List Value):
 ∀(n:Nat),(∀i,i<n→zbO ls (R i))→∃l:List α,l.length=n∧(∀x∈l,ok x)∧l.flatMap en=(List.range n).flatMap R
 |0,_=>⟨[],rfl,(fun x h=>by cases h),rfl⟩
 |n+1,h=>by
  obtain⟨l,h1,h2,h3⟩:=zfB hdec R n (fun i hi=>h i (by omega))
  obtain⟨x,hx1,hx2⟩:=hdec _ (h n (by omega))
  refine⟨l++[x],by simp[h1],fun y hy=> ?_,?_⟩
  ·rcases lma.1 hy with hy|hy
   ·exact h2 y hy
   ·rw[lms.1 hy];exact hx2
  ·rw[List.flatMap_append,h3,List.range_succ,List.flatMap_append];simp[hx1]
section
variable {H : Type} {enc : TypeId × Value → H} {P : Program} {W : World}
/-- an argument that is a slice -/
theorem zir {t e:TypeId}{ls:List Leaf}{α:Type}{en:α→List Value}{ok:α→Prop}{r:Reach}{b0:Nat}{v:Value}{d:DataW H}{p:List MemPlace}(N:Nat)(ht:P.underlying t=some (.slice e))(hl:ziq P N e=some ls)(hC:P.cellsOf e=ls.length)
 (hdec:∀vs,zbO ls vs→∃x,en x=vs∧ok x)(hval:Value.okWide P W r b0 t v)(h:DataW.Trod enc P W 0 (fun _=>true) true t v d p):
 ∃A c,∃l:List α,v=.slice A l.length c∧l.length≤c∧(∀x∈l,ok x)∧zaD W [] A l.length ls.length (l.flatMap en):=by
 obtain⟨A,n,c,rfl⟩:=okWide_slice ht hval
 obtain⟨fuel,hf⟩:=h
 rcases Go.Deep.open_slice ht hf with ⟨h0,_⟩|⟨a,len,cap,m,k,D,Pl,hcs,_,hlc,hcm,hm,_,hi⟩
 ·injection h0 with h0 _
  injection h0 with h1 h2 h3
  subst h1 h2 h3
  exact⟨none,0,[],rfl,Nat.le_refl _,fun x hx=>(by cases hx),by simpa using zaD.none_⟩
 ·injection hcs with h0 _
  injection h0 with h1 h2 h3
  subst h1 h2 h3
  simp only[if_true]at hm
  subst hm
  have hrow:∀i,i<n→∃cs',zbO ls cs'∧∀j,j<ls.length→W.cell? (a.add (i*ls.length+j))=cs'[j]? :=fun i hin=>by
   obtain⟨cs',hc,ht'⟩:=hi i (by omega)
   rw[hC]at hc
   obtain⟨_,hcl,hat⟩:=World.cells?_some hc
   refine⟨cs',zdu N k e ls cs' _ hl hcl ht',fun j hj=> ?_⟩
   rw[←Go.Deep.add_add]
   exact hat j hj
  let R:Nat→List Value:=fun i=>if hin:i<n then Classical.choose (hrow i hin)else []
  have hR:∀i (hin:i<n),zbO ls (R i)∧∀j,j<ls.length→W.cell? (a.add (i*ls.length+j))=(R i)[j]? :=fun i hin=>by
   have:=Classical.choose_spec (hrow i hin)
   simp only[R,hin,dif_pos]
   exact this
  obtain⟨l,l1,l2,l3⟩:=zfB hdec R n (fun i hin=>(hR i hin).1)
  subst l1
  have hlen:∀m,m≤l.length→((List.range m).flatMap R).length=m*ls.length:=by
   intro m
   induction m with
   |zero=>intro _;simp
   |succ m ih=>intro hm;rw[List.range_succ,List.flatMap_append,lla,ih (by omega),Nat.succ_mul];simp[(hR m (by omega)).1.len]
  have hone:∀v∈(List.range l.length).flatMap R,v.oneCell'=true:=fun v hv=>by
   obtain⟨i,hin,hv⟩:=List.mem_flatMap.1 hv
   exact(hR i (List.mem_range.1 hin)).1.one v hv
  have hat:∀m,m≤l.length→∀j v,((List.range m).flatMap R)[j]? =some v→W.cell? (a.add j)=some v:=by
   intro m
   induction m with
   |zero=>intro _ j v hj;simp at hj
   |succ m ih=>
    intro hm j v hj
    rw[List.range_succ,List.flatMap_append]at hj
    rcases Nat.lt_or_ge j ((List.range m).flatMap R).length with hlt|hge
    ·rw[List.getElem?_append_left hlt]at hj
     exact ih (by omega) j v hj
    ·rw[List.getElem?_append_right hge]at hj
     have e:=hlen m (by omega)
     rw[e]at hj hge
     simp only[List.flatMap_cons,List.flatMap_nil,List.append_nil]at hj
     have hjl:j - m*ls.length<ls.length:=by
      have:=(gsi.1 hj).1
      rw[(hR m (by omega)).1.len]at this
      exact this
     have h2:=(hR m (by omega)).2 _ hjl
     rw[show m*ls.length+(j - m*ls.length)=j by omega]at h2
     rw[h2,hj]
  refine⟨some a,_,l,rfl,hlc,l2,?_⟩
  rw[l3]
  exact zk3 (hlen _ (Nat.le_refl _)) hone (hat _ (Nat.le_refl _))
theorem zda (hl:laidOutB P=true){W':World}{sp:Nat→Bool}(hb:Below W.heap.size W W'):∀{ts:List TypeId} {vs:List Value} {ds:List (DataW H)} {ps:List MemPlace},
 (∀t∈ts,P.readableRec t=true∧t<P.types.size)→DataW.TrodAll enc P W 0 (fun _=>true) true ts vs ds ps→(∀x∈ps,x.block<W.heap.size)→(∀x∈ps,sp x.block=true)→DataW.TrodAll enc P W' 0 sp true ts vs ds ps
 |[],_,_,_,_,h,_,_=>by
  obtain⟨rfl,rfl,rfl⟩:=trodAll_nil h
  exact trodAll_mk0
 |t::ts,_,_,_,hr,h,hlt,hsp=>by
  obtain⟨v,vs',d,ds',p,q,rfl,rfl,rfl,h1,h2⟩:=trodAll_cons h
  exact trodAll_cons_mk (WideElems.Trod_stays hl (hr t (by simp)).1 (hr t (by simp)).2 h1 (fun x hx=>hb.same (hlt x (by simp[hx]))) (fun x hx=>hsp x (by simp[hx])))
   (zda hl hb (fun u hu=>hr u (by simp[hu])) h2 (fun x hx=>hlt x (by simp[hx])) (fun x hx=>hsp x (by simp[hx])))
/-- the row's answer: the call says true and has turned nothing that was there -/
theorem zjV {f:Func}{s:ChangeSpec}{apart fresh handsOn again:Bool}{W':World}{args:Array Value}{ds:List (DataW H)}{before:List MemPlace}{tb:TypeId}
 (hW:DataW.Whole enc P f.params.toList s.vars apart W args.toList ds [] before) (hA:DataW.TrodAll enc P W 0 (fun _=>true) true f.params.toList args.toList ds before)
 (hl:laidOutB P=true) (hrow:(f.params.toList.all fun t=>P.readableRec t&&decide (t<P.types.size))=true) (hv:s.vars=[]) (hr:f.resultTypes= #[tb]) (htb:P.underlying tb=some .bool)
 (h1:(s.fn H (ds++[])).results=[.lit (.bool true)])(h2:(s.fn H (ds++[])).args=ds)(h3:(s.fn H (ds++[])).vars=[])(hb:Below W.heap.size W W'):
 s.post enc P f apart fresh handsOn again W args (.bool true) W':=by
 have hlt:∀p∈before,p.block<W.heap.size:=fun p hp=>hW.lt p hp
 have hrow':∀t∈f.params.toList,P.readableRec t=true∧t<P.types.size:=fun t ht=>by
  have:=List.all_eq_true.1 hrow t ht
  simpa using this
 have hargs:∀sp:Nat→Bool,(∀p∈before,sp p.block=true)→DataW.TrodAll enc P W' 0 sp true f.params.toList args.toList ds before:=fun sp hsp=>zda hl hb hrow' hA hlt hsp
 have hvars:∀sp:Nat→Bool,DataW.TrodVars enc P W' sp s.vars [] []:=fun sp=>by rw[hv];exact(rfl:([]:List MemPlace)=[])
 have hres:∀(b:Nat) (sp:Nat→Bool) (hd:Bool),DataW.TrodAll enc P W' b sp hd f.resultTypes.toList ((Value.bool true).resultList f.resultTypes.size) [.lit (.bool true)] []:=fun b sp hd=>by
  rw[hr];exact trodAll_cons_mk (shut_bool htb _) trodAll_mk0
 have hold:∀p∈before,(fun b=>decide (b<W.heap.size)) p.block=true:=fun p hp=>by simpa using hlt p hp
 refine⟨ds,[],before,[],before,[],hW,by rw[h1];exact hres _ _ _,by rw[h2];exact hargs _ hold,by rw[h3];exact hvars _,World.keptBut_mono (fun p hp=>⟨hp,.inr (.inl hp)⟩) (hb.frame (·∈before)),fun _=> ?_⟩
 obtain⟨_,_,_,_,_,hz,hn⟩:=hW
 refine⟨ok_one hr rfl (okWide_bool_mk htb _),_,_,([]++before)++[],⟨[]++before,[],trodAll_append (show DataW.TrodAll enc P W' 0 (fun _=>true) true f.params.toList args.toList (s.fn H (ds++[])).args before by rw[h2];exact hargs _ (fun _ _=>rfl)) (show DataW.TrodAll enc P W' 0 (fun _=>true) true f.resultTypes.toList ((Value.bool true).resultList f.resultTypes.size) (s.fn H (ds++[])).results []by rw[h1];exact hres _ _ _),(show DataW.TrodVars enc P W' (fun _=>true) s.vars (s.fn H (ds++[])).vars []by rw[h3];exact hvars _),rfl,?_,?_⟩,?_⟩
 ·intro b off hp
  have hin:MemPlace.cell b off∈before:=by simpa using hp
  rw[hb.frozen (p:=⟨b,off,none⟩) (hlt _ hin)]
  exact hz b off hin
 ·intro ha
  simpa using hn ha
 ·intro p hp _
  simpa using hp
theorem zaL.row {f:FuncId}{args:List Value}{R:Value→List zah→Prop}(hs:zaL P W f args [] R)(hR:∀v h',R v h'→v=.bool true):Calls P f args.toArray W fun e W'=>e=.returned (.bool true)∧Below W.heap.size W W':=
 (hs.2 W (Rep.start W)).mono fun _ _ ⟨v,h',e,r,rp⟩=>⟨by rw[e,hR v h' r],rp.below⟩
end
end Go.Sl
set_option linter.unusedSimpArgs false
set_option linter.unusedVariables false
namespace Go.Sl
open Go Go.ChangeShapes Go.WideShapes
def I64w (n:Int):Prop:= -9223372036854775808≤n∧n≤9223372036854775807
def U64w (n:Int):Prop:=0≤n∧n≤18446744073709551615
theorem wfI {n:Int}(h:(Lit.int .i64 n).wf=true):I64w n:=by
 have h1:(decide ((-9223372036854775808:Int)≤n)&&decide (n≤(9223372036854775807:Int)))=true:=h
 simpa [I64w]using h1
structure MsgR where
 kind:Int
 f0:Int
 f1:Int
 f2:Int
 f3:Int
 f4:Int
 f5:Int
 deriving DecidableEq
def MsgR.enc (x:MsgR):List Value:=[.int .i64 x.kind,.int .i64 x.f0,.int .i64 x.f1,.int .i64 x.f2,.int .i64 x.f3,.int .i64 x.f4,.int .i64 x.f5]
theorem MsgR.enc_len (d:MsgR):d.enc.length=7:=rfl
theorem MsgR.enc_one (d:MsgR):∀v∈d.enc,v.oneCell'=true:=List.all_eq_true.1 (rfl:d.enc.all Value.oneCell'=true)
def MsgR.ok (x:MsgR):Prop:=I64w x.kind∧I64w x.f0∧I64w x.f1∧I64w x.f2∧I64w x.f3∧I64w x.f4∧I64w x.f5
structure OutR where
 to:Int
 msg:MsgR
 deriving DecidableEq
def OutR.enc (x:OutR):List Value:=[.int .i64 x.to]++x.msg.enc
theorem OutR.enc_len (d:OutR):d.enc.length=8:=rfl
theorem OutR.enc_one (d:OutR):∀v∈d.enc,v.oneCell'=true:=List.all_eq_true.1 (rfl:d.enc.all Value.oneCell'=true)
def OutR.ok (x:OutR):Prop:=I64w x.to∧I64w x.msg.kind∧I64w x.msg.f0∧I64w x.msg.f1∧I64w x.msg.f2∧I64w x.msg.f3∧I64w x.msg.f4∧I64w x.msg.f5
structure zcP where
 seq:Int
 msg:MsgR
 deriving DecidableEq
def zcP.enc (x:zcP):List Value:=[.int .i64 x.seq]++x.msg.enc
theorem zcP.enc_len (d:zcP):d.enc.length=8:=rfl
theorem zcP.enc_one (d:zcP):∀v∈d.enc,v.oneCell'=true:=List.all_eq_true.1 (rfl:d.enc.all Value.oneCell'=true)
def zcP.ok (x:zcP):Prop:=I64w x.seq∧I64w x.msg.kind∧I64w x.msg.f0∧I64w x.msg.f1∧I64w x.msg.f2∧I64w x.msg.f3∧I64w x.msg.f4∧I64w x.msg.f5
structure zaB where
 id:Int
 bond:Int
 buyer:Int
 seller:Int
 price:Int
 qty:Int
 ask:Int
 tick:Int
 deriving DecidableEq
def zaB.enc (x:zaB):List Value:=[.int .i64 x.id,.int .i64 x.bond,.int .i64 x.buyer,.int .i64 x.seller,.int .i64 x.price,.int .i64 x.qty,.int .i64 x.ask,.int .i64 x.tick]
theorem zaB.enc_len (d:zaB):d.enc.length=8:=rfl
theorem zaB.enc_one (d:zaB):∀v∈d.enc,v.oneCell'=true:=List.all_eq_true.1 (rfl:d.enc.all Value.oneCell'=true)
def zaB.ok (x:zaB):Prop:=I64w x.id∧I64w x.bond∧I64w x.buyer∧I64w x.seller∧I64w x.price∧I64w x.qty∧I64w x.ask∧I64w x.tick
theorem zis (vs:List Value)(h:zbO [.int .i64,.int .i64,.int .i64,.int .i64,.int .i64,.int .i64,.int .i64,.int .i64] vs):∃x:zaB,zaB.enc x=vs∧zaB.ok x:=by
 have hlen:vs.length=8:=h.len
 match vs,hlen,h with
 |[u0,u1,u2,u3,u4,u5,u6,u7],_,h=>
  obtain⟨a0,h0,w0⟩:=h.1
  obtain⟨a1,h1,w1⟩:=h.2.1
  obtain⟨a2,h2,w2⟩:=h.2.2.1
  obtain⟨a3,h3,w3⟩:=h.2.2.2.1
  obtain⟨a4,h4,w4⟩:=h.2.2.2.2.1
  obtain⟨a5,h5,w5⟩:=h.2.2.2.2.2.1
  obtain⟨a6,h6,w6⟩:=h.2.2.2.2.2.2.1
  obtain⟨a7,h7,w7⟩:=h.2.2.2.2.2.2.2.1
  exact⟨⟨a0,a1,a2,a3,a4,a5,a6,a7⟩,by rw[h0,h1,h2,h3,h4,h5,h6,h7];rfl,(by unfold zaB.ok;exact⟨wfI w0,wfI w1,wfI w2,wfI w3,wfI w4,wfI w5,wfI w6,wfI w7⟩)⟩
structure za1 where
 tick:Int
 lot:Int
 min:Int
 max:Int
 low:Int
 high:Int
 halted:Bool
 deriving DecidableEq
def za1.enc (x:za1):List Value:=[.int .i64 x.tick,.int .i64 x.lot,.int .i64 x.min,.int .i64 x.max,.int .i64 x.low,.int .i64 x.high,.bool x.halted]
theorem za1.enc_len (d:za1):d.enc.length=7:=rfl
theorem za1.enc_one (d:za1):∀v∈d.enc,v.oneCell'=true:=List.all_eq_true.1 (rfl:d.enc.all Value.oneCell'=true)
def za1.ok (x:za1):Prop:=I64w x.tick∧I64w x.lot∧I64w x.min∧I64w x.max∧I64w x.low∧I64w x.high
structure zaJ where
 role:Int
 asks:Int
 cap:Int
 deriving DecidableEq
def zaJ.enc (x:zaJ):List Value:=[.int .i64 x.role,.int .u64 x.asks,.int .i64 x.cap]
theorem zaJ.enc_len (d:zaJ):d.enc.length=3:=rfl
theorem zaJ.enc_one (d:zaJ):∀v∈d.enc,v.oneCell'=true:=List.all_eq_true.1 (rfl:d.enc.all Value.oneCell'=true)
def zaJ.ok (x:zaJ):Prop:=I64w x.role∧U64w x.asks∧I64w x.cap
def AskR.ok (x:AskR):Prop:=I64w x.id∧I64w x.client∧I64w x.bond∧I64w x.side∧I64w x.qty∧U64w x.dealers∧I64w x.ends∧I64w x.until_∧I64w x.state∧I64w x.hit
end Go.Sl
set_option linter.unusedSimpArgs false
set_option linter.unusedVariables false
namespace Go.Sl
open Go Go.RowKit
variable {P : Program} {W : World} {N : Nat} {T : Tab} {env : Env} {h : List zah} {Q : Exit → Env → List zah → Prop} {kf : KF} {ops : Array Oper} {K : Env → List zah → Prop} {rest : List Oper}
theorem zbj {id:Nat}{ol:List Oper}(q al:List FuncId)(p:Plan)(hm:P.follows .mixedOrders=true)
 (hp:(Region.noSelect ol.toArray&&(p.len==ol.toArray.size&&(p.even&&Plan.ok (kdOf (kfD q al) ol.toArray) ol.toArray (Region.before ol.toArray) false p (Array.replicate ol.toArray.size false))))=true)
 (hep:EP P W N (kfD q al) ol.toArray p env h fun env' h'=>Q .normal env' h'):AW P W N (.region id ol.toArray true) env h Q:=fun a w ha hw=>by
 exact zgl (W:=W) (kp:=(kfD q al).keep) (kd:=kdOf (kfD q al) ol.toArray) (Q:=fun a' h'=>∃env',Q .normal env' h'∧zbg N env' a') (fun a' h' w' hw' ⟨env',hq,ha'⟩=>⟨env',h',hq,ha',hw'⟩) hm hp hw (hep a ha)
theorem zb0 (hT:zba P T){b:Bool}{k:IntKind}{e:Int}{d:Tmp}{t yt:TypeId}{x y:Operand}{ty pos af g}(hg:zbi ops env g=some b)(hb:b=true)(hd:Nat.blt d N=true)(hx:zaR env x=some (.int k e))(hy:zaR env y=some (.int k e))
 (hK:ES P W N kf ops rest ((d,.bool false)::env) h K):ES P W N kf ops (⟨some d,.binOp .neq t x y yt,ty,pos,af,g⟩::rest) env h K:=
 zai hT hg hb hd (v:=.bool (e != e)) (by simp[zdO,hx,hy,cmpV]) (by rw[bne_self_eq_false];exact hK)
end Go.Sl
set_option linter.unusedSimpArgs false
set_option linter.unusedVariables false
namespace Go.Sl
open Go Go.RowKit
variable {P : Program} {W : World} {N : Nat} {T : Tab} {env : Env} {h : List zah} {Q : Exit → Env → List zah → Prop} {kf : KF} {ops : Array Oper} {K : Env → List zah → Prop} {rest : List Oper}
theorem zk4 (hT:zba P T){b:Bool}{e:Int}{d:Tmp}{op ty pos af g}(hg:zbi ops env g=some b)(hb:b=true)(hd:Nat.blt d N=true)(hv:zb9 T env op=some (.u64,e))
 (hK:ES P W N kf ops rest ((d,.int .u64 (e%18446744073709551616))::env) h K):ES P W N kf ops (⟨some d,op,ty,pos,af,g⟩::rest) env h K:=
 zbI hg hb hd (fun _ ha w=>by rw[zbK hT ha hv w,IntKind.wrap_u64]) hK
theorem zlN {b:Bool}{e:Int}{n:Nat}{k yk:IntKind}{d:Tmp}{t yt:TypeId}{x y:Operand}{ty pos af g}(hg:zbi ops env g=some b)(hb:b=true)(hd:Nat.blt d N=true)(hx:zaR env x=some (.int k e))(hy:zaR env y=some (.int yk (n:Int)))(hk:k.bits=64)(hn:n≤64)
 (hK:ES P W N kf ops rest ((d,.int k (e / (2^n:Nat)))::env) h K):ES P W N kf ops (⟨some d,.binOp .shr t x y yt,ty,pos,af,g⟩::rest) env h K:=
 zbI hg hb hd (fun a ha w=>by
  have h2:(0:Int)≤((2^n:Nat):Int):=Int.natCast_nonneg _
  have e1:e.fdiv ((2^n:Nat):Int)=e / ((2^n:Nat):Int):=Int.fdiv_eq_ediv_of_nonneg e h2
  have this':min n k.bits=n:=by rw[hk];omega
  have e2:¬((n:Int)<0):=by omega
  rw[←e1]
  simp[execOp,ha.eval hx,ha.eval hy,eqGuard,binOp,Op.shift,this',e2]) hK
end Go.Sl
set_option linter.unusedSimpArgs false
set_option linter.unusedVariables false
namespace Go.Sl
open Go Go.RowKit
variable {P : Program} {W : World} {N : Nat} {T : Tab} {env : Env} {h : List zah} {Q : Exit → Env → List zah → Prop} {kf : KF} {ops : Array Oper} {K : Env → List zah → Prop} {rest : List Oper}
def bitI (op:BinOp)(k:IntKind)(x y:Int):Int:=match op with
 | .and=>k.wrap (BitVec.ofInt k.bits x &&& BitVec.ofInt k.bits y).toNat
 | .or=>k.wrap (BitVec.ofInt k.bits x ||| BitVec.ofInt k.bits y).toNat
 | .xor=>k.wrap (BitVec.ofInt k.bits x ^^^ BitVec.ofInt k.bits y).toNat
 |_=>k.wrap (BitVec.ofInt k.bits x &&& ~~~ BitVec.ofInt k.bits y).toNat
def zkN :BinOp→Bool
 | .and| .or| .xor| .andNot=>true
 |_=>false
theorem zgp {b:Bool}{e f:Int}{k:IntKind}{op:BinOp}{d:Tmp}{t yt:TypeId}{x y:Operand}{ty pos af g}(hg:zbi ops env g=some b)(hb:b=true)(hd:Nat.blt d N=true)(hop:zkN op=true)(hx:zaR env x=some (.int k e))(hy:zaR env y=some (.int k f))
 (hK:ES P W N kf ops rest ((d,.int k (bitI op k e f))::env) h K):ES P W N kf ops (⟨some d,.binOp op t x y yt,ty,pos,af,g⟩::rest) env h K:=by
 refine zbI hg hb hd (fun a ha w=> ?_) hK
 cases op<;>first|(exact absurd hop (by decide))|(simp[execOp,ha.eval hx,ha.eval hy,eqGuard,binOp,Op.intBits,bitI])
theorem zlO {b:Bool}{e f:Int}{k yk:IntKind}{d:Tmp}{t yt:TypeId}{x y:Operand}{ty pos af g}(hg:zbi ops env g=some b)(hb:b=true)(hd:Nat.blt d N=true)(hx:zaR env x=some (.int k e))(hy:zaR env y=some (.int yk f))(h0:0≤f)
 (hK:ES P W N kf ops rest ((d,.int k (k.wrap (e*2^(min f.toNat k.bits))))::env) h K):ES P W N kf ops (⟨some d,.binOp .shl t x y yt,ty,pos,af,g⟩::rest) env h K:=by
 refine zbI hg hb hd (fun a ha w=> ?_) hK
 have e2:¬(f<0):=by omega
 simp[execOp,ha.eval hx,ha.eval hy,eqGuard,binOp,Op.shift,e2]
end Go.Sl
set_option linter.unusedSimpArgs false
set_option linter.unusedVariables false
namespace Go.Proofs.YteocfhdocpeokaaGreat
open Go Go.Sl
def inB (n a b:Int):Bool:=decide (n≥a)&&decide (n≤b)
theorem zcV {n a b:Int}(h:inB n a b=true):a≤n∧n≤b:=by simp[inB]at h;omega
theorem zme {n a b:Int}(h:inB n a b=false):n<a∨b<n:=by
 unfold inB at h
 by_cases h1:n≥a
 ·simp[h1]at h;omega
 ·omega
def zdB (b:za1):Bool:=(inB b.tick 1 1000000&&inB b.low 1 1000000&&inB b.high b.low 1000000)&&(inB b.lot 1 1000000&&inB b.min 1 1000000&&inB b.max b.min 1000000)&&decide (b.max - b.max%b.lot≥b.min)
def zbP (l:List zaJ):Nat→Nat
 |0=>0
 |k+1=>zbP l k+(match l[k]? with
  |some p=>if p.role=2 then 2^k else 0
  |none=>0)
theorem zfC (l:List zaJ):∀k,zbP l k<2^k
 |0=>by simp[zbP]
 |k+1=>by
  have h1:=zfC l k
  have h0:0<2^k:=Nat.two_pow_pos k
  unfold zbP
  rw[Nat.pow_succ]
  generalize 2^k=m at*
  split
  ·split<;>omega
  ·omega
def zcq (p:zaJ)(all:Int):Bool:=
 if p.role=1 then bitI .andNot .u64 p.asks all==0&&p.cap==0 else if p.role=2 then p.asks==0&&inB p.cap 0 1099511627776 else if p.role=3 then p.asks==0&&p.cap==0 else false
def isR (bs:List za1)(ps:List zaJ)(look beat:Int):Bool:=
 (inB bs.length 1 4&&inB ps.length 1 8)&&(bs.all zdB&&ps.all (fun p=>zcq p (zbP ps ps.length))&&inB look 1 1000&&inB beat 1 1000)
theorem zlP {a k:Nat}(h:a<2^k)(hk:k<64):bitI .or .u64 (a:Int) (IntKind.u64.wrap (1*2^(min ((k:Int)).toNat IntKind.u64.bits)))=((a+2^k:Nat):Int):=by
 have h64:2^k<2^64:=Nat.pow_lt_pow_right (by decide) hk
 have e1:IntKind.u64.wrap (1*2^(min ((k:Int)).toNat IntKind.u64.bits))=((2^k:Nat):Int):=by
  have:min ((k:Int)).toNat IntKind.u64.bits=k:=by show min _ 64=k;omega
  rw[this,Int.one_mul]
  rw[show((2:Int)^k)=((2^k:Nat):Int)by simp]
  exact IntWalk.u64_in _ ⟨by omega,by omega⟩
 rw[e1]
 show IntKind.u64.wrap ((BitVec.ofInt 64 (a:Int) ||| BitVec.ofInt 64 ((2^k:Nat):Int)).toNat:Int)=_
 have e2:(BitVec.ofInt 64 (a:Int) ||| BitVec.ofInt 64 ((2^k:Nat):Int)).toNat=a+2^k:=by
  rw[BitVec.toNat_or,BitVec.ofInt_natCast,BitVec.ofInt_natCast,BitVec.toNat_ofNat,BitVec.toNat_ofNat,Nat.mod_eq_of_lt (by omega),Nat.mod_eq_of_lt h64,Nat.or_comm]
  have:=Nat.two_pow_add_eq_or_of_lt h 1
  rw[Nat.mul_one]at this
  rw[←this];omega
 rw[e2]
 have:a+2^k<2^64:=by
  have h3:2^(k+1)≤2^64:=Nat.pow_le_pow_right (by decide) hk
  rw[Nat.pow_succ]at h3;omega
 exact IntWalk.u64_in _ ⟨by omega,by omega⟩
theorem zgq {l:List zaJ}{k:Nat}{p:zaJ}(h:l[k]? =some p):zbP l (k+1)=zbP l k+if p.role=2 then 2^k else 0:=by
 show zbP l k+_=_
 rw[h]
end Go.Proofs.YteocfhdocpeokaaGreat
set_option linter.unusedSimpArgs false
set_option linter.unusedVariables false
namespace Go.Proofs.YteocfhdocpeokaaGreat
open Go Go.Sl
/-! ### messages -/
def zgr (kind:Int)(l:List Int):MsgR:=⟨kind,l.getD 0 0,l.getD 1 0,l.getD 2 0,l.getD 3 0,l.getD 4 0,l.getD 5 0⟩
def outM (to kind:Int)(l:List Int):OutR:=⟨to,zgr kind l⟩
/-! ### trades -/
def zigN (n:Int):Nat:=if n<0 then 2*(-(n+1)).toNat+1 else 2*n.toNat
def oneN (z:Nat):List Nat:=if h:z<128 then [z]else(z%128+128)::oneN (z / 128)
termination_by z
decreasing_by omega
def zcr (l:List Int):List Nat:=l.flatMap fun n=>oneN (zigN n)
def mixN (x b:Nat):Nat:=((x ^^^ b)*1099511628211)%18446744073709551616
def zb1 (last:Nat)(bs:List Nat):Nat:=let x:=bs.foldl mixN (last ^^^ 1469598103934665603);x ^^^ (x / 536870912)
def zbu (t:zaB):List Nat:=zcr [t.id,t.bond,t.buyer,t.seller,t.price,t.qty,t.ask,t.tick]
def zbz (t:zaB):List OutR:=[outM t.buyer 28 [t.id,1,t.bond,t.price,t.qty,t.seller],outM t.seller 28 [t.id,2,t.bond,t.price,t.qty,t.buyer]]
end Go.Proofs.YteocfhdocpeokaaGreat
set_option linter.unusedSimpArgs false
set_option linter.unusedVariables false
namespace Go.Proofs.YteocfhdocpeokaaGreat
open Go Go.Sl
def zbQ (t:zaB)(who:Int)(m:MsgR):Bool:=(zbz t).any fun o=>decide (o=⟨who,m⟩)
def zbk (who:Int)(m:MsgR):List zaB→Nat→Option Nat
 |[],_=>none
 |t::l,i=>if zbQ t who m then some i else zbk who m l (i+1)
def zaK (l:List zaB)(who:Int):List MsgR→Nat→Bool
 |[],_=>true
 |m::ms,i=>if m.kind≠28 then zaK l who ms i else match zbk who m (l.drop i) i with
  |none=>false
  |some j=>zaK l who ms (j+1)
def zcL (l:List zaB)(taken:List (List MsgR)):Bool:=(List.range taken.length).all fun(i:Nat)=>zaK l i (taken.getD i []) 0
theorem zcf {t:zaB}{who:Int}{m:MsgR}(h:zbQ t who m=true):t.id=m.f0:=by
 simp only[zbQ,zbz,List.any_cons,List.any_nil,Bool.or_false,Bool.or_eq_true,decide_eq_true_eq]at h
 rcases h with h|h<;>(injection h with _ h;rw[←h];rfl)
theorem zbB {who:Int}{m:MsgR}{l:List zaB}:∀(d:Nat) {i j:Nat},l.length - i=d→zbk who m (l.drop i) i=some j→i≤j∧∃t,l[j]? =some t∧zbQ t who m=true
 |0,i,j,hd,h=>by
  rw[List.drop_eq_nil_of_le (by omega)]at h
  cases h
 |d+1,i,j,hd,h=>by
  have hi:i<l.length:=by omega
  rw[List.drop_eq_getElem_cons hi]at h
  unfold zbk at h
  split at h
  ·rename_i h1
   injection h with h
   subst h
   exact⟨Nat.le_refl _,_,gge hi,h1⟩
  ·obtain⟨h1,h2⟩:=zbB d (i:=i+1) (by omega) h
   exact⟨by omega,h2⟩
theorem zd7 {who:Int}{m:MsgR}{l:List zaB}:∀(d:Nat) {i:Nat},l.length - i=d→zbk who m (l.drop i) i=none→∀(j:Nat) t,i≤j→l[j]? =some t→zbQ t who m=false
 |0,i,hd,h,j,t,hj,ht=>by
  have:=(gsi.1 ht).1
  omega
 |d+1,i,hd,h,j,t,hj,ht=>by
  have hi:i<l.length:=by omega
  rw[List.drop_eq_getElem_cons hi]at h
  unfold zbk at h
  split at h
  ·cases h
  ·rename_i h1
   by_cases hij:j=i
   ·subst hij
    rw[gge hi]at ht
    cases ht
    simpa using h1
   ·exact zd7 d (i:=i+1) (by omega) h j t (by omega) ht
/-- trades that are numbered one by one -/
def numT (l:List zaB):Prop:=∀(i:Nat) t,l[i]? =some t→t.id=(i:Int)+1
theorem zit {who:Int}{m:MsgR}{l:List zaB}(hn:numT l){i j:Nat}{t:zaB}(ht:l[j]? =some t)(ho:zbQ t who m=true)(hij:i≤j):zbk who m (l.drop i) i=some j:=by
 rcases h:zbk who m (l.drop i) i with _|k
 ·have:=zd7 _ rfl h j t hij ht
  rw[ho]at this;cases this
 ·obtain⟨_,u,hu,h2⟩:=zbB _ rfl h
  have e1:=hn k u hu
  have e2:=hn j t ht
  have e3:=zcf ho
  have e4:=zcf h2
  congr 1;omega
/-- what a party is told of one trade -/
def zdv (p:Int)(t:zaB):List MsgR:=if t.buyer=p then [(outM t.buyer 28 [t.id,1,t.bond,t.price,t.qty,t.seller]).msg]else if t.seller=p then [(outM t.seller 28 [t.id,2,t.bond,t.price,t.qty,t.buyer]).msg]else []
theorem zcB {p:Int}{t:zaB}{m:MsgR}(h:m∈zdv p t):zbQ t p m=true∧m.kind=28:=by
 unfold zdv at h
 simp only[zbQ,zbz,List.any_cons,List.any_nil,Bool.or_false,Bool.or_eq_true,decide_eq_true_eq]
 split at h
 ·rename_i hb
  rw[lms]at h
  subst h
  exact⟨.inl (by unfold outM;rw[hb]),rfl⟩
 ·split at h
  ·rename_i hb
   rw[lms]at h
   subst h
   exact⟨.inr (by unfold outM;rw[hb]),rfl⟩
  ·cases h
theorem zfD (p:Int)(t:zaB):zdv p t=[]∨∃m,zdv p t=[m]:=by
 unfold zdv
 split
 ·exact .inr ⟨_,rfl⟩
 ·split
  ·exact .inr ⟨_,rfl⟩
  ·exact .inl rfl
theorem zgs {l:List zaB}{p:Int}{rest:List MsgR}{i:Nat}(hr:∀k,k≤l.length→zaK l p rest k=true)(hi:l.length<i):zaK l p rest i=true:=by
 have h:=hr l.length (Nat.le_refl _)
 clear hr
 induction rest with
 |nil=>rfl
 |cons m ms ih=>
  unfold zaK at h ⊢
  split
  ·rename_i h1
   rw[if_pos h1]at h
   exact ih h
  ·rename_i h1
   rw[if_neg h1,List.drop_eq_nil_of_le (Nat.le_refl _)]at h
   cases h
theorem zcW {l:List zaB}(hn:numT l){p:Int}:∀(d:Nat) {i j:Nat} (rest:List MsgR),l.length - j=d→i≤j→(∀k,k≤l.length→zaK l p rest k=true)→zaK l p ((l.drop j).flatMap (zdv p)++rest) i=true
 |0,i,j,rest,hd,hij,hr=>by
  rw[List.drop_eq_nil_of_le (by omega)]
  by_cases hil:i≤l.length
  ·exact hr i hil
  ·exact zgs hr (by omega)
 |d+1,i,j,rest,hd,hij,hr=>by
  have hj:j<l.length:=by omega
  rw[List.drop_eq_getElem_cons hj,List.flatMap_cons,List.append_assoc]
  have ht:l[j]? =some l[j]:=gge hj
  rcases zfD p l[j]with h1|⟨m,h1⟩
  ·rw[h1]
   exact zcW hn d (j:=j+1) rest (by omega) (by omega) hr
  ·obtain⟨h2,h3⟩:=zcB (p:=p) (t:=l[j]) (m:=m) (by rw[h1];simp)
   rw[h1]
   show zaK l p (m::_) i=true
   unfold zaK
   rw[if_neg (by simp[h3]),zit hn ht h2 hij]
   exact zcW hn d (j:=j+1) rest (by omega) (by omega) hr
def rowT (l:List zaB)(p:Int):List MsgR:=l.flatMap (zdv p)
theorem zd8 {l:List zaB}(hn:numT l)(p:Int):zaK l p (rowT l p) 0=true:=by
 have:=zcW hn (p:=p) (l.length - 0) (i:=0) (j:=0) [] rfl (Nat.le_refl _) (fun _ _=>rfl)
 rwa[List.append_nil]at this
theorem zcg {l:List zaB}{p:Int}{m:MsgR}(hk:m.kind=28)(hb:∀t∈l,zbQ t p m=false):∀(ms:List MsgR) (i:Nat),zaK l p (ms++[m]) i=false
 |[],i=>by
  show zaK l p [m] i=false
  unfold zaK
  rw[if_neg (by simp[hk])]
  rcases h:zbk p m (l.drop i) i with _|j
  ·rfl
  ·obtain⟨_,t,ht,ho⟩:=zbB _ rfl h
   rw[hb t (mog ht)]at ho;cases ho
 |a::ms,i=>by
  show zaK l p (a::(ms++[m])) i=false
  unfold zaK
  split
  ·exact zcg hk hb ms i
  ·split
   ·rfl
   ·exact zcg hk hb ms _
theorem zch {l:List zaB}(hn:numT l){p:Int}{m:MsgR}(hk:m.kind=28):∀(ms:List MsgR) (i:Nat),zaK l p (ms++[m,m]) i=false
 |[],i=>by
  show zaK l p [m,m] i=false
  unfold zaK
  rw[if_neg (by simp[hk])]
  rcases h:zbk p m (l.drop i) i with _|j
  ·rfl
  ·obtain⟨_,t,ht,ho⟩:=zbB _ rfl h
   show zaK l p [m] (j+1)=false
   unfold zaK
   rw[if_neg (by simp[hk])]
   rcases h2:zbk p m (l.drop (j+1)) (j+1)with _|k
   ·rfl
   ·obtain⟨h3,u,hu,ho2⟩:=zbB _ rfl h2
    have e1:=hn j t ht
    have e2:=hn k u hu
    have e3:=zcf ho
    have e4:=zcf ho2
    omega
 |a::ms,i=>by
  show zaK l p (a::(ms++[m,m])) i=false
  unfold zaK
  split
  ·exact zch hn hk ms i
  ·split
   ·rfl
   ·exact zch hn hk ms _
theorem zdb {l:List zaB}{taken:List (List MsgR)}{i:Nat}{r:List MsgR}(hr:taken[i]? =some r)(h:zaK l i r 0=false):zcL l taken=false:=by
 unfold zcL
 rw[List.all_eq_false]
 refine⟨i,List.mem_range.2 (gsi.1 hr).1,?_⟩
 rw[List.getD_eq_getElem?_getD,hr]
 simpa using h
theorem zcC {l:List zaB}{taken:List (List MsgR)}(h:∀(i:Nat) r,taken[i]? =some r→zaK l i r 0=true):zcL l taken=true:=by
 unfold zcL
 rw[List.all_eq_true]
 intro i hi
 have hi:=List.mem_range.1 hi
 have hr:taken[i]? =some (taken[i]):=gge hi
 rw[List.getD_eq_getElem?_getD,hr]
 exact h i _ hr
end Go.Proofs.YteocfhdocpeokaaGreat
set_option linter.unusedSimpArgs false
set_option linter.unusedVariables false
namespace Go.Sl
open Go Go.RowKit
variable {P : Program} {W : World} {N : Nat} {T : Tab} {env : Env} {h : List zah} {Q : Exit → Env → List zah → Prop} {kf : KF} {ops : Array Oper} {K : Env → List zah → Prop} {rest : List Oper}
theorem zaX {α:Type}{c:Code}(E:α→Env)(H:α→List zah)(μ:α→Nat)(S:α→Prop)(x:α)(hs:S x)(he:Sub env (E x))(hp:zaW h (H x))
 (hc:∀x,S x→AW P W N c (E x) (H x) (zkY E H μ S x Q)):AW P W N (.loop c) env h Q:=
 let ⟨J,p⟩:=hp;zds E H μ S x (J:=J) hs he p hc
end Go.Sl
set_option linter.unusedSimpArgs false
set_option linter.unusedVariables false
namespace Go.Sl
open Go Go.RowKit
variable {P : Program} {W : World} {N : Nat} {T : Tab} {env : Env} {h : List zah} {Q : Exit → Env → List zah → Prop} {kf : KF} {ops : Array Oper} {K : Env → List zah → Prop} {rest : List Oper}
theorem zmf {h G F:List zah}{x:zah}(h1:h.Perm (x::G))(h2:G.Perm F):h.Perm (x::F):=h1.trans (h2.cons x)
/-! ### a struct built cell by cell -/
def layS (cs:List Value)(off:Nat)(v:Value):List Value:=match v with
 | .agg _=>lay cs off v.cells.toList
 | .tuple _=>lay cs off v.cells.toList
 |v=>cs.set off v
def zjW (place:Nat→Option (Nat×Nat))(cells:List Value):List (Nat×Value)→Option (List Value)
 |[]=>some cells
 |(i,v)::rest=>match place i with
  |none=>none
  |some (off,size)=>if v.cells.size=size∧off+size≤cells.length then zjW place (layS cells off v) rest else none
def zkO (T:Tab)(env:Env)(t:TypeId)(parts:List (Nat×Operand)):Option (List Value):=
 match T.lookup t with
 |some ⟨.struct fs,_,_,z⟩=>match zdt T fs.toList,zc7 env parts with
  |some ps,some vs=>zjW (fun i=>ps[i]?) z.cells.toList vs
  |_,_=>none
 |_=>none
theorem ziu {cs:List Value}{off:Nat}{v:Value}(h:off+1≤cs.length):lay cs off [v]=cs.set off v:=by
 unfold lay
 rw[List.set_eq_take_append_cons_drop,if_pos (by omega)]
 simp
theorem zk5 {cs:List Value}{off:Nat}{v:Value}(h:off+v.cells.size≤cs.length):layS cs off v=lay cs off v.cells.toList:=by
 unfold layS
 split
 ·rfl
 ·rfl
 ·rename_i h1 h2
  have e:v.cells= #[v]:=by
   cases v<;>first|rfl|exact absurd rfl (h1 _)|exact absurd rfl (h2 _)
  rw[e]at h ⊢
  exact(ziu h).symm
theorem zg6 (place:Nat→Option (Nat×Nat)):∀(parts:List (Nat×Value)) (cells:List Value),zjW place cells parts=zd4 place cells parts
 |[],cells=>rfl
 |(i,v)::rest,cells=>by
  unfold zjW zd4
  cases hp:place i with
  |none=>rfl
  |some q=>
   obtain⟨off,size⟩:=q
   dsimp only
   split
   ·rename_i hc
    rw[zk5 (by rw[hc.1];exact hc.2),zg6 place rest]
   ·rfl
theorem zaQ (hT:zba P T){b:Bool}{d:Tmp}{ty pos af g}{t:TypeId}{parts:Array (Nat×Operand)}{cs:List Value}(hg:zbi ops env g=some b)(hb:b=true)(hd:Nat.blt d N=true)
 (hv:zkO T env t parts.toList=some cs)
 (hK:ES P W N kf ops rest ((d,.agg cs.toArray)::env) h K):ES P W N kf ops (⟨some d,.build t parts,ty,pos,af,g⟩::rest) env h K:=by
 refine zc8 hT hg hb hd ?_ hK
 unfold zkO at hv
 unfold zih
 split at hv
 ·split at hv
  ·rename_i h0 _ _ _ _ h1 h2
   simp only[h0,h1,h2]
   rw[←zg6];exact hv
  ·cases hv
 ·cases hv
end Go.Sl
set_option linter.unusedSimpArgs false
set_option linter.unusedVariables false
namespace Go.Sl
open Go Go.RowKit
variable {P : Program} {W : World} {T : Tab} {N : Nat} {env : Env} {h h' : List zah} {kf : KF} {ops : Array Oper} {K : Env → List zah → Prop} {o : Oper} {rest : List Oper}
theorem zjX (z:Value)(n:Nat):madeCells #[z] n=(List.replicate n z).toArray:=by
 apply Array.ext
 ·simp[size_madeCells]
 ·intro i h1 h2
  simp[madeCells,Nat.mod_one]
theorem zbL (hT:zba P T){b:Bool}{d:Tmp}{ty pos af g}{t e:TypeId}{ti te:TI}{x y:Operand}{n:Nat}{m:Int}{kl kc:IntKind}{z:Value}(hg:zbi ops env g=some b)(hb:b=true)(hd:Nat.blt d N=true)(hk:(kf ⟨some d,.makeSlice t x y,ty,pos,af,g⟩).al=true)
 (ht:T.lookup t=some ti) (htd:ti.desc=.slice e) (hte:T.lookup e=some te) (hs:te.size=1) (hz:te.zero.cells= #[z]) (hz1:z.oneCell'=true) (hx:zaR env x=some (.int kl m)) (hy:zaR env y=some (.int kc m)) (hm:m=n) (hn:n≤1000000) (hby:te.bytes≤1000)
 (hK:∀g',ES P W N kf ops rest ((d,.slice (some ⟨g',0,none⟩) n n)::env) (.own (some ⟨g',0,none⟩) n n e 1 (List.replicate n z)::h) K):ES P W N kf ops (⟨some d,.makeSlice t x y,ty,pos,af,g⟩::rest) env h K:=fun a ha=>by
 subst hb hm
 refine zbE (it:=za9 kf ops ⟨some d,.makeSlice t x y,ty,pos,af,g⟩) (zbc ha hg) (zic hk) (fun w hw=> ?_)
 have g1:=(hT _ _ ht).1
 rw[htd]at g1
 obtain⟨_,i,hi,h1,h2,h3⟩:=hT _ _ hte
 have hb2:(i.bytes:Int)*(n:Int)≤281474976710656:=by
  have:i.bytes*n≤1000*1000000:=Nat.mul_le_mul (by omega) hn
  have:((i.bytes*n:Nat):Int)≤281474976710656:=by omega
  rwa[Int.natCast_mul]at this
 have hr:=run_makeSlice (P:=P) w t e i te.zero g1 hi h3 kl kc (n:Int) (n:Int) (by omega) (Int.le_refl _) (by rw[h1,hs];simp;omega) hb2 (by omega)
 rw[hz,h1,hs,Nat.mul_one,Int.toNat_natCast,zjX]at hr
 have hrun:(execOp a.eval ⟨some d,.makeSlice t x y,ty,pos,af,g⟩).run P w=.ok (.value (.slice (some ⟨w.heap.size,0,none⟩) n n)) (w.alloc (.cells (List.replicate n z).toArray e)):=by
  simp only[execOp,ha.eval hx,ha.eval hy,Sem.run_bind,hr,Result.andThen_ok,Sem.run_pure]
 unfold Oper.wp
 show Oper.upon P _ a _ _ ((execOp a.eval ⟨some d,.makeSlice t x y,ty,pos,af,g⟩).run P w)
 rw[hrun]
 refine⟨[.own (some ⟨w.heap.size,0,none⟩) n n e 1 (List.replicate n z)],?_,hK w.heap.size _ (ha.put (d:=some d) hd)⟩
 exact hw.alloc_own e n 1 (List.replicate n z) (by simp) (by simp[maxLen];omega) (fun v hv=>by rw[(List.mem_replicate.1 hv).2];exact hz1)
/-! ### rows of rows in memory -/
theorem ziv {c:zah}{X F G:List zah}(hp:F.Perm (c::G)):(X++F).Perm (c::(X++G)):=(hp.append_left X).trans List.perm_middle
theorem zk6 {X F G:List zah}(hd:zaW F G):zaW (X++F) (X++G):=by
 obtain⟨J,p⟩:=hd
 refine⟨J,(p.append_left X).trans ?_⟩
 rw[←List.append_assoc,←List.append_assoc]
 exact(List.perm_append_comm).append_right G
end Go.Sl
set_option linter.unusedSimpArgs false
set_option linter.unusedVariables false
namespace Go.Sl
open Go Go.RowKit
variable {P : Program} {W : World} {h h' F : List zah}
theorem zaD.enc {α:Type}{enc:α→List Value}{k:Nat}(hk:∀x,(enc x).length=k)(h1:∀x,∀v∈enc x,v.oneCell'=true){A:Option Addr}{n c:Nat}{t:TypeId}{l:List α}(hm:zah.own A n c t k (l.flatMap enc)∈h)(hn:l.length=n):zaD W h A n k (l.flatMap enc):=
 zaD.own hm (by rw[zcz hk,hn]) (fun v hv=>by
  obtain⟨y,_,hy⟩:=List.mem_flatMap.1 hv
  exact h1 y v hy)
theorem zaD.ints {A:Option Addr}{n c:Nat}{t:TypeId}{kd:IntKind}{l:List Int}(hm:zah.own A n c t 1 (l.map (Value.int kd))∈h)(hn:l.length=n):zaD W h A n 1 (l.map (Value.int kd)):=
 zaD.own hm (by simp[hn]) (fun v hv=>by
  obtain⟨y,_,rfl⟩:=lmm.1 hv
  rfl)
theorem zk7 {x:zah}(hx:x∈h):∀c∈[x],c∈h:=fun c hc=>by
 rw[lms.1 hc];exact hx
theorem zk8 {x y:zah}(hx:x∈h)(hy:y∈h):∀c∈[x,y],c∈h:=fun c hc=>by
 rcases List.mem_cons.1 hc with rfl|hc
 ·exact hx
 ·exact zk7 hy c hc
theorem zmg {x y z:zah}(hx:x∈h)(hy:y∈h)(hz:z∈h):∀c∈[x,y,z],c∈h:=fun c hc=>by
 rcases List.mem_cons.1 hc with rfl|hc
 ·exact hx
 ·exact zk8 hy hz c hc
/-- a value of a row of single numbers -/
theorem zgt {kd:IntKind}{l:List Int}{i:Nat}{n:Int}(h:l[i]? =some n):(l.map (Value.int kd))[i*1]? =some (.int kd n):=by simp[h]
theorem zdQ {cs:List Value}{i:Nat}{v:Value}(h:i<cs.length):lay cs (i*1) [v]=cs.set i v:=by
 rw[Nat.mul_one];exact ziu (by omega)
end Go.Sl
set_option linter.unusedSimpArgs false
set_option linter.unusedVariables false
namespace Go.Sl
open Go Go.RowKit
variable {P : Program} {W : World} {T : Tab} {N : Nat} {env : Env} {h h' : List zah} {kf : KF} {ops : Array Oper} {K : Env → List zah → Prop} {o : Oper} {rest : List Oper}
theorem zlQ {L R:List zah}:(L++R).Perm (L++R):=plr _
theorem zlR {x:zah}{F L G:List zah}(hp:F.Perm (L++G)):(x::F).Perm (L++x::G):=(hp.cons x).trans List.perm_middle.symm
theorem zlS {X F L G:List zah}(hp:F.Perm (L++G)):(X++F).Perm (L++(X++G)):=(hp.append_left X).trans (by
 rw[←List.append_assoc,←List.append_assoc]
 exact(List.perm_append_comm).append_right G)
theorem zlT {h L G F:List zah}(h1:h.Perm (L++G))(h2:G.Perm F):h.Perm (L++F):=h1.trans (h2.append_left L)
theorem zfE (hT:zba P T){b:Bool}{d:Tmp}{ty pos af g}{t e:TypeId}{ti te:TI}{x ix:Operand}{ad:Addr}{gb off len:Nat}{i:Int}{k:IntKind}(hg:zbi ops env g=some b)(hb:b=true)(hd:Nat.blt d N=true)
 (ht:T.lookup t=some ti) (htd:ti.desc=.array len e) (hte:T.lookup e=some te) (hx:zaR env x=some (.pointer (some ad))) (hi:zaR env ix=some (.int k i)) (had:ad=⟨gb,off,none⟩) (h0:0≤i) (h1:i<len)
 (hK:ES P W N kf ops rest ((d,.pointer (some ⟨gb,off+i.toNat*te.size,none⟩))::env) h K):ES P W N kf ops (⟨some d,.indexAddr t x ix,ty,pos,af,g⟩::rest) env h K:=
 zbI hg hb hd (fun a ha w=>by
  have g1:=hT _ _ ht
  have g2:=hT _ _ hte
  have hu:=g1.1
  rw[htd]at hu
  subst had
  simp[execOp,ha.eval hx,ha.eval hi,Instr.indexAt,Instr.sureAddr,asIntOf,run_underlying hu,h0,h1,g2.sz,ze7]) hK
end Go.Sl
