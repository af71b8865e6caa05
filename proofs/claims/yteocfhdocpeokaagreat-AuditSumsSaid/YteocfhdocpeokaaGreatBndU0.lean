/- The statements' walks, and what they stand on, joined into few texts: part 0. Conditions stand in each statement. -/
import Derived.Maps.AppendAt
import Derived.Laws.CopyOwn
import Derived.Laws.MakeOwn
import Derived.Laws.StructEq
import Derived.Deep.Quiet
import Derived.Below
import Derived.Tactics
import Derived.IntWalk
import Derived.Lib.Overlaps
import Derived.Test.YteocfhdocpeokaaGreatChecked
import Derived.KernelRfl
import Derived.Test.YteocfhdocpeokaaGreatRows
import Derived.OpenShut
import Derived.ChangeSame
import Derived.ProofKit
import Derived.WideKeyArgs
import Derived.Deep.Slices
import Derived.Deep.Fields
import Derived.Laws.Externs
import Derived.Laws.Bits64b
import Derived.WalkKit
import Derived.Lib.Mul64
import Derived.MapKept
import Derived.Shelf.SlSortCmp.NoneTotal
import Derived.Ground.SlsfProg
import Derived.Sort.Grow
set_option maxHeartbeats 16000000
set_option linter.all false
set_option linter.unusedSimpArgs false
set_option linter.unusedVariables false
theorem mcm {α:Type _}{a:α}(y:α){l:List α}(h:a∈l):a∈y::l:=List.mem_cons_of_mem y h
theorem mcs {α:Type _}{a:α}{l:List α}:a∈a::l:=List.mem_cons_self
theorem mar {α:Type _}{b:α}(xs:List α){ys:List α}(h:b∈ys):b∈xs++ys:=List.mem_append_right xs h
theorem odt {p:Prop}[inst:Decidable p](h:decide p=true):p:=of_decide_eq_true h
theorem odf {p:Prop}[inst:Decidable p](h:decide p=false):¬p:=of_decide_eq_false h
theorem nle {n m:Nat}(h:Nat.ble n m=true):n≤m:=Nat.le_of_ble_eq_true h
theorem gsi {α:Type _}{l:List α}{i:Nat}{a:α}:l[i]? =some a↔∃h:i<l.length,l[i]=a:=List.getElem?_eq_some_iff
theorem gge {α:Type _}{l:List α}{i:Nat}(h:i<l.length):l[i]? =some l[i]:=List.getElem?_eq_getElem h
theorem mog {α:Type _}{l:List α}{i:Nat}{a:α}(h:l[i]? =some a):a∈l:=List.mem_of_getElem? h
theorem lla {α:Type _}{l m:List α}:(l++m).length=l.length+m.length:=List.length_append
theorem plr {α:Type _}(l:List α):l.Perm l:=List.Perm.refl l
theorem llm {α β:Type _}{l:List α}(f:α→β):(l.map f).length=l.length:=List.length_map f
theorem llt {α:Type _}{i:Nat}{l:List α}:(l.take i).length=min i l.length:=List.length_take
theorem lms {α:Type _}{a b:α}:a∈[b]↔a=b:=List.mem_singleton
theorem lma {α:Type _}{a:α}{l m:List α}:a∈l++m↔a∈l∨a∈m:=List.mem_append
theorem lmm {α β:Type _}{b:β}{f:α→β}{l:List α}:b∈l.map f↔∃a,a∈l∧f a=b:=List.mem_map
theorem mX {G:Prop}(h:G:=by first|(repeat(first|exact mcs|apply mcm|apply mar))<;>fail):G:=h
theorem sX {G:Prop}(h:G:=by first|(repeat(first|exact sel0|apply selS|apply zft))<;>fail):G:=h
theorem dX {G:Prop}(h:G:=by first|(repeat(first|exact zbi|(apply za7;· (repeat(first|exact sel0|apply selS|apply zft)))|apply zbt|apply zgQ))<;>fail):G:=h
theorem pX {G:Prop}(h:G:=by first|(repeat(first|exact plr _|(apply zhq;· (repeat(first|exact sel0|apply selS|apply zft)))|(apply zhd;· (repeat(first|exact zha|apply zhb|apply zhc)))))<;>fail):G:=h
namespace Go.Sl
open Go Go.RowKit
theorem zap {x y:Int}(h:(x != y)=true):¬x=y:=by simpa using h
theorem zaq {x y:Int}(h:(x != y)=false):x=y:=by simpa using h
/-- the address of cell o of a row -/
def adr (A:Option Addr)(o:Nat):Addr:=(A.getD ⟨0,0,none⟩).add o
inductive zah where
 |blk (g:Nat) (t:TypeId) (cs:List Value)
 |own (A:Option Addr) (n c:Nat) (t:TypeId) (k:Nat) (cs:List Value)
 |map (g:Nat) (l:List (Value×Value))
def zah.keys :zah→List Nat
 | .blk g _ _=>[g]
 | .own A _ _ _ _ _=>(A.map (·.block)).toList
 | .map g _=>[g]
def zah.holds (B:Nat)(w:World):zah→Prop
 | .blk g t cs=>B≤g∧w.heap[g]? =some (.cells cs.toArray t (0,0))
 | .own A n c t k cs=>w.ownsRow B t k (.slice A n c) n cs∧∀v∈cs,v.oneCell'=true
 | .map g l=>B≤g∧∃es clock,w.heap[g]? =some (.map es clock)∧es.toList.map (fun e=>(e.key,e.val))=l
structure Rep (W:World)(h:List zah)(w:World):Prop where
 below:Below W.heap.size W w
 holds:∀c∈h,c.holds W.heap.size w
 nodup:(h.flatMap zah.keys).Nodup
section
variable {W w w' : World} {h h' F : List zah} {c c' : zah} {B : Nat}
theorem zdd (c:zah):c.keys.Nodup:=by
 cases c with
 |blk g t cs=>simp[zah.keys]
 |own A n c t k cs=>cases A<;>simp[zah.keys]
 |map g l=>simp[zah.keys]
theorem zbL (hc:c.holds B w):∀g∈c.keys,B≤g∧g<w.heap.size:=by
 cases c with
 |blk g t cs=>
  intro g' hg
  simp only[zah.keys,lms]at hg
  subst hg
  exact⟨hc.1,(Array.getElem?_eq_some_iff.1 hc.2).1⟩
 |own A n c t k cs=>
  intro g hg
  refine hc.1.lt g ?_
  cases A with
  |none=>simp[zah.keys]at hg
  |some a=>simp[zah.keys]at hg;simp[Value.ownBlock,hg]
 |map g l=>
  intro g' hg
  simp only[zah.keys,lms]at hg
  subst hg
  obtain⟨h1,es,clock,h2,_⟩:=hc
  exact⟨h1,(Array.getElem?_eq_some_iff.1 h2).1⟩
theorem zb9 {row:Option Nat}(hc:c.holds B w)(hg:w.grownBy w' row)(hne:∀g∈c.keys,some g≠row):c.holds B w':=by
 cases c with
 |blk g t cs=>exact⟨hc.1,(hg.block g (Array.getElem?_eq_some_iff.1 hc.2).1 (hne g (by simp[zah.keys]))).trans hc.2⟩
 |own A n c t k cs=>
  refine⟨hc.1.kept hg ?_,hc.2⟩
  cases A with
  |none=>exact .inl rfl
  |some a=>exact .inr (fun e=>hne a.block (by simp[zah.keys]) e)
 |map g l=>
  obtain⟨h1,es,clock,h2,h3⟩:=hc
  exact⟨h1,es,clock,(hg.block g (Array.getElem?_eq_some_iff.1 h2).1 (hne g (by simp[zah.keys]))).trans h2,h3⟩
theorem Rep.perm (hr:Rep W h w)(hp:h.Perm h'):Rep W h' w:=
 ⟨hr.below,fun c hc=>hr.holds c (hp.mem_iff.2 hc),((hp.flatMap_right zah.keys).nodup_iff).1 hr.nodup⟩
theorem Rep.sub (hr:Rep W h w)(hs:h'.Sublist h):Rep W h' w:=
 ⟨hr.below,fun c hc=>hr.holds c (hs.subset hc),hr.nodup.sublist (by
   clear hr
   induction hs with
   |slnil=>exact List.Sublist.refl _
   |cons a _ ih=>exact ih.trans (by simp[List.flatMap_cons])
   |cons_cons a _ ih=>simp only[List.flatMap_cons];exact(List.Sublist.refl _).append ih)⟩
theorem Rep.drop (hr:Rep W (F++h) w):Rep W h w:=hr.sub (List.sublist_append_right F h)
theorem Rep.tail (hr:Rep W (c::h) w):Rep W h w:=hr.sub (List.sublist_cons_self c h)
theorem zca (hb:Below W.heap.size W w){row:Option Nat}(hg:w.grownBy w' row)(hrow:∀g,row=some g→W.heap.size≤g):Below W.heap.size W w':=
 hb.grown hg hb.size hrow
/-- One chunk has turned, and new blocks are there. -/
theorem Rep.change {row:Option Nat}(hr:Rep W (c::h) w)(hg:w.grownBy w' row)(hrow:∀g,row=some g→g∈c.keys)
 (hc:c'.holds W.heap.size w') (hk:∀g∈c'.keys,g∈c.keys∨w.heap.size≤g):Rep W (c'::h) w':=by
 have hn:=hr.nodup
 simp only[List.flatMap_cons,List.nodup_append]at hn
 obtain⟨_,hn2,hn3⟩:=hn
 refine⟨zca hr.below hg (fun g e=>(zbL (hr.holds c (by simp)) g (hrow g e)).1),fun d hd=> ?_,?_⟩
 ·rcases List.mem_cons.1 hd with rfl|hd
  ·exact hc
  ·refine zb9 (hr.holds d (by simp[hd])) hg (fun g hgk e=> ?_)
   exact hn3 g (hrow g e.symm) g (List.mem_flatMap.2 ⟨d,hd,hgk⟩) rfl
 ·simp only[List.flatMap_cons,List.nodup_append]
  refine⟨zdd c',hn2,fun g hgc g' hg' e=> ?_⟩
  subst e
  rcases hk g hgc with h1|h1
  ·exact hn3 g h1 g hg' rfl
  ·obtain⟨d,hd,hgd⟩:=List.mem_flatMap.1 hg'
   have:=(zbL (hr.holds d (by simp[hd])) g hgd).2
   omega
/-- A chunk more, in new blocks. -/
theorem Rep.add (hr:Rep W h w)(hg:w.grownBy w' none)(hc:c'.holds W.heap.size w')(hk:∀g∈c'.keys,w.heap.size≤g):Rep W (c'::h) w':=by
 refine⟨zca hr.below hg (fun g e=>by cases e),fun d hd=> ?_,?_⟩
 ·rcases List.mem_cons.1 hd with rfl|hd
  ·exact hc
  ·exact zb9 (hr.holds d hd) hg (fun g _ e=>by cases e)
 ·simp only[List.flatMap_cons,List.nodup_append]
  refine⟨zdd c',hr.nodup,fun g hgc g' hg' e=> ?_⟩
  subst e
  obtain⟨d,hd,hgd⟩:=List.mem_flatMap.1 hg'
  have h1:=(zbL (hr.holds d hd) g hgd).2
  have h2:=hk g hgc
  omega
theorem Rep.grow (hr:Rep W h w)(hg:w.grownBy w' none):Rep W h w':=
 ⟨zca hr.below hg (fun g e=>by cases e),fun d hd=>zb9 (hr.holds d hd) hg (fun g _ e=>by cases e),hr.nodup⟩
theorem zdN (w:World)(n:Nat):w.grownBy {w with drawn:=n} none:=⟨rfl,rfl,rfl,Nat.le_refl _,fun _ _ _=>rfl⟩
theorem Rep.drawn (hr:Rep W h w)(n:Nat):Rep W h {w with drawn:=n}:=hr.grow (zdN w n)
theorem Rep.start (W:World):Rep W [] W:=⟨Below.refl _ _,(fun _ h=>by cases h),by simp⟩
theorem Rep.alloc_blk (hr:Rep W h w)(t:TypeId)(cs:List Value):Rep W (.blk w.heap.size t cs::h) (w.alloc (.cells cs.toArray t)):=
 hr.add (World.grownBy_alloc w _ none) ⟨hr.below.size,heap_alloc_new w _⟩ (fun g hg=>by simp[zah.keys]at hg;omega)
theorem Rep.alloc_own (hr:Rep W h w)(t:TypeId)(n k:Nat)(cs:List Value)(hl:cs.length=n*k)(hn:n≤maxLen)(h1:∀v∈cs,v.oneCell'=true):
 Rep W (.own (some ⟨w.heap.size,0,none⟩) n n t k cs::h) (w.alloc (.cells cs.toArray t)):=by
 refine hr.add (World.grownBy_alloc w _ none) ⟨⟨hl,.inr ⟨w.heap.size,n,cs.toArray,rfl,hr.below.size,heap_alloc_new w _,Nat.le_refl _,hn,by simpa using hl,?_⟩⟩,h1⟩ (fun g hg=>by simp[zah.keys]at hg;omega)
 rw[←hl];simp
theorem Rep.own_nil (hr:Rep W h w)(t:TypeId)(k:Nat):Rep W (.own none 0 0 t k []::h) w:=
 hr.add (World.grownBy.refl w none) ⟨World.ownsRow_nil _ _ _ _,by simp⟩ (fun g hg=>by simp[zah.keys]at hg)
/-! ### reading -/
theorem Rep.heap_blk (hr:Rep W h w){g:Nat}{t:TypeId}{cs:List Value}(hm:zah.blk g t cs∈h):w.heap[g]? =some (.cells cs.toArray t (0,0)):=(hr.holds _ hm).2
theorem Rep.cell_blk (hr:Rep W h w){g:Nat}{t:TypeId}{cs:List Value}(hm:zah.blk g t cs∈h)(i:Nat):w.cell? ⟨g,i,none⟩=cs[i]? :=by
 rw[cell_of_row w g i _ t (0,0) (hr.heap_blk hm)];simp
/-- what holds of memory, whether or not the list names a block twice -/
structure RepS (W:World)(h:List zah)(w:World):Prop where
 below:Below W.heap.size W w
 holds:∀c∈h,c.holds W.heap.size w
theorem Rep.weak (hr:Rep W h' w)(hs:∀c∈h,c∈h'):RepS W h w:=⟨hr.below,fun c hc=>hr.holds c (hs c hc)⟩
theorem RepS.heap_blk (hr:RepS W h w){g:Nat}{t:TypeId}{cs:List Value}(hm:zah.blk g t cs∈h):w.heap[g]? =some (.cells cs.toArray t (0,0)):=(hr.holds _ hm).2
theorem RepS.cell_blk (hr:RepS W h w){g:Nat}{t:TypeId}{cs:List Value}(hm:zah.blk g t cs∈h)(i:Nat):w.cell? ⟨g,i,none⟩=cs[i]? :=by
 rw[cell_of_row w g i _ t (0,0) (hr.heap_blk hm)];simp
/-- the cells of a row that can be read: of one that the call owns, or of one that came in -/
def zaE (W:World)(h:List zah)(A:Option Addr)(n k:Nat)(cs:List Value):Prop:=
 cs.length=n*k∧(∀v∈cs,v.oneCell'=true)∧∀w,RepS W h w→∀j v,cs[j]? =some v→A.isSome=true∧w.cell? (adr A j)=some v
theorem zaE.len {A n k cs}(hr:zaE W h A n k cs):cs.length=n*k:=hr.1
theorem zaE.mono {A n k cs}(hr:zaE W h A n k cs)(hs:∀c∈h,c∈h'):zaE W h' A n k cs:=
 ⟨hr.1,hr.2.1,fun w hw=>hr.2.2 w ⟨hw.below,fun c hc=>hw.holds c (hs c hc)⟩⟩
theorem zaE.cons {A n k cs}(hr:zaE W h A n k cs):zaE W (c::h) A n k cs:=hr.mono fun _ hc=>List.mem_cons_of_mem _ hc
theorem zaE.none_ {k}:zaE W h none 0 k []:=⟨by simp,by simp,fun w _ j v hj=>by simp at hj⟩
theorem zaE.own {A n c t k cs}(hm:zah.own A n c t k cs∈h)(hl:cs.length=n*k)(h1:∀v∈cs,v.oneCell'=true):zaE W h A n k cs:=by
 refine⟨hl,h1,fun w hw j v hj=> ?_⟩
 have ho:=(hw.holds _ hm).1
 rcases ho.2 with ⟨hv,rfl⟩|⟨g,cap,cur,hv,_,hg,_⟩
 ·have:cs=[]:=List.eq_nil_of_length_eq_zero (by simpa using ho.1)
  subst this;simp at hj
 ·injection hv with hA _ _
  subst hA
  refine⟨rfl,?_⟩
  exact ho.cells (g:=g) rfl j v hj
end
end Go.Sl
set_option linter.unusedSimpArgs false
set_option linter.unusedVariables false
namespace Go.Sl
open Go Go.RowKit
inductive Kd where
 |pure|quiet|alloc|write|look|grow
 deriving DecidableEq
structure Item where
 kd:Kd
 keep:List zah
 o:Oper
 g:Option (Option Tmp×Bool)
def gOk (g:Option (Option Tmp×Bool))(tmps:Array Value):Bool:=
 match g with
 |none=>true
 |some (t,b)=>match t.bind (tmps[·]?)with
  |some (.bool x)=>x==b
  |_=>false
def zaW (kd:Nat→Kd)(kp:List zah)(ops:Array Oper)(i:Nat):Option Item:=
 (ops[i]?).map fun o=>⟨kd i,kp,o,o.guard.map fun jb=>((ops[jb.1]?).bind (·.dst),jb.2)⟩
section
variable {P : Program} {W : World}
def opI (P:Program)(W:World)(it:Item)(K:Act→List zah→Prop)(a:Act)(h:List zah):Prop:=
 if gOk it.g a.tmps=true then
  match it.kd with
  | .pure=>∃v,(∀w,(execOp a.eval it.o).run P w=.ok (.value v) w)∧K (a.put it.o.dst v) h
  | .quiet=>∃v,(∀h',(∀c∈h,c∈h')→∀w,Rep W h' w→it.o.quietAt P a (Rep W h') w v)∧K (a.put it.o.dst v) h
  | .alloc=>∀w,Rep W h w→it.o.wp P a w (fun a' w'=>∃cs,Rep W (cs++h) w'∧K a' (cs++h)) (fun _ _ _=>False)
  | .write=>∀w,Rep W h w→it.o.wp P a w (fun a' w'=>∃h',Rep W h' w'∧K a' h') (fun _ _ _=>False)
  | .look=>∃v,((∀w,(execOp a.eval it.o).run P w=.ok (.value v) w)∨((∀c∈it.keep,c∈h)∧∀h',(∀c∈it.keep,c∈h')→∀w,Rep W h' w→it.o.quietAt P a (Rep W h') w v))∧K (a.put it.o.dst v) h
  | .grow=>∀w,Rep W h w→it.o.wp P a w (fun a' w'=>∃h',(Rep W h' w'∧((∀c∈it.keep,c∈h)→∀c∈it.keep,c∈h'))∧K a' h') (fun _ _ _=>False)
 else K (a.put it.o.dst undef) h
theorem za9 {o:Oper}{a:Act}{w:World}{K K':Act→World→Prop}{Q Q':Exit→Act→World→Prop}(h:∀a w,K a w→K' a w)(hQ:∀e a w,Q e a w→Q' e a w)
 (hh:o.wp P a w K Q):o.wp P a w K' Q':=by
 unfold Oper.wp at*
 generalize (execOp a.eval o).run P w=r at*
 cases r with
 |ok n w'=>
  cases n<;>simp only[Oper.upon]at hh ⊢<;>
   first
    |exact h _ _ hh
    |exact Calls.mono hh (fun e w'' he=>by cases e<;>first|exact h _ _ he|exact hQ _ _ _ he|exact(let ⟨a,w,q⟩:=he;⟨a,w,hQ _ _ _ q⟩))
    |exact Rows.mono hh (fun _ _ he=>h _ _ he)
 |halt x w'=>cases x<;>simp only[Oper.upon]at hh ⊢<;>first|exact hQ _ _ _ hh|exact hh
theorem zcf {it:Item}{K K':Act→List zah→Prop}{a:Act}{h:List zah}(hK:∀a h,K a h→K' a h)(hh:opI P W it K a h):opI P W it K' a h:=by
 unfold opI at*
 split
 ·rename_i hg
  simp only[hg,if_true]at hh
  split<;>rename_i hk<;>simp only[hk]at hh
  ·exact let ⟨v,h1,h2⟩:=hh;⟨v,h1,hK _ _ h2⟩
  ·exact let ⟨v,h1,h2⟩:=hh;⟨v,h1,hK _ _ h2⟩
  ·exact fun w hw=>za9 (fun a w' h2=>let ⟨cs,h3,h4⟩:=h2;⟨cs,h3,hK _ _ h4⟩) (fun _ _ _ h=>h) (hh w hw)
  ·exact fun w hw=>za9 (fun a w' h2=>let ⟨cs,h3,h4⟩:=h2;⟨cs,h3,hK _ _ h4⟩) (fun _ _ _ h=>h) (hh w hw)
  ·exact let ⟨v,h1,h2⟩:=hh;⟨v,h1,hK _ _ h2⟩
  ·exact fun w hw=>za9 (fun a w' h2=>let ⟨cs,h3,h4⟩:=h2;⟨cs,h3,hK _ _ h4⟩) (fun _ _ _ h=>h) (hh w hw)
 ·rename_i hg
  simp only[hg]at hh
  exact hK _ _ hh
theorem zcI {kd:Nat→Kd}{kp:List zah}{ops:Array Oper}{i:Nat}{it:Item}(hi:zaW kd kp ops i=some it)(tmps:Array Value):
 gOk it.g tmps=Region.wanted it.o (yielded ops tmps):=by
 unfold zaW at hi
 cases ho:ops[i]? with
 |none=>simp[ho]at hi
 |some o=>
  simp only[ho,Option.map_some,Option.some.injEq]at hi
  subst hi
  simp only[gOk,Region.wanted]
  cases o.guard with
  |none=>rfl
  |some jb=>
   obtain⟨j,b⟩:=jb
   simp only[Option.map_some,yielded]
   split<;>rename_i h1
   ·simp only[h1]
    rename_i x
    cases x<;>cases b<;>rfl
   ·split
    ·rename_i h2;exact absurd h2 (h1 _)
    ·rfl
theorem zbF {kd:Nat→Kd}{kp:List zah}{ops:Array Oper}{i:Nat}{it:Item}(hi:zaW kd kp ops i=some it):ops[i]? =some it.o∧it.kd=kd i:=by
 unfold zaW at hi
 cases ho:ops[i]? with
 |none=>simp[ho]at hi
 |some o=>simp only[ho,Option.map_some,Option.some.injEq]at hi;subst hi;exact⟨rfl,rfl⟩
theorem zdO {kd:Nat→Kd}{kp:List zah}{ops:Array Oper}{i:Nat}{it:Item}(hi:zaW kd kp ops i=some it):it.keep=kp:=by
 unfold zaW at hi
 cases ho:ops[i]? with
 |none=>simp[ho]at hi
 |some o=>simp only[ho,Option.map_some,Option.some.injEq]at hi;subst hi;rfl
/-- one operation, in the world -/
theorem zgy {kd:Nat→Kd}{kp:List zah}{ops:Array Oper}{i:Nat}{it:Item}{Q:Exit→Act→World→Prop}{K:Act→List zah→Prop}{a:Act}{h:List zah}{w:World}
 (hi:zaW kd kp ops i=some it) (hw:Rep W h w) (hh:opI P W it K a h):wpOp P ops Q i (fun a' w'=>∃h',Rep W h' w'∧K a' h') a w:=by
 obtain⟨ho,_⟩:=zbF hi
 unfold wpOp opI at*
 rw[zcI hi]at hh
 simp only[ho]
 split
 ·rename_i hg
  simp only[hg,if_true]at hh
  refine .inl ?_
  split at hh<;>rename_i hk
  ·obtain⟨v,h1,h2⟩:=hh
   unfold Oper.wp;rw[h1 w];exact⟨h,hw,h2⟩
  ·obtain⟨v,h1,h2⟩:=hh
   have h3:=h1 h (fun _ hc=>hc) w hw
   unfold Oper.quietAt at h3
   unfold Oper.wp
   generalize (execOp a.eval it.o).run P w=r at*
   cases r with
   |ok n w'=>
    cases n<;>simp only[Oper.quietUpon]at h3<;>simp only[Oper.upon]
    ·obtain⟨rfl,rfl⟩:=h3;exact⟨h,hw,h2⟩
    ·obtain⟨rfl,rfl⟩:=h3;exact⟨h,hw,h2⟩
    ·obtain⟨rfl,hc⟩:=h3
     exact hc.mono fun e w'' ⟨he,hw''⟩=>by subst he;exact⟨h,hw'',h2⟩
   |halt x w'=>simp only[Oper.quietUpon]at h3
  ·exact za9 (fun a w' h2=>let ⟨cs,h3,h4⟩:=h2;⟨cs++h,h3,h4⟩) (fun _ _ _ h=>h.elim) (hh w hw)
  ·exact za9 (fun a w' h2=>h2) (fun _ _ _ h=>h.elim) (hh w hw)
  ·obtain⟨v,h1|⟨hk,h1⟩,h2⟩:=hh
   ·unfold Oper.wp;rw[h1 w];exact⟨h,hw,h2⟩
   ·have h3:=h1 h hk w hw
    unfold Oper.quietAt at h3
    unfold Oper.wp
    generalize (execOp a.eval it.o).run P w=r at*
    cases r with
    |ok n w'=>
     cases n<;>simp only[Oper.quietUpon]at h3<;>simp only[Oper.upon]
     ·obtain⟨rfl,rfl⟩:=h3;exact⟨h,hw,h2⟩
     ·obtain⟨rfl,rfl⟩:=h3;exact⟨h,hw,h2⟩
     ·obtain⟨rfl,hc⟩:=h3
      exact hc.mono fun e w'' ⟨he,hw''⟩=>by subst he;exact⟨h,hw'',h2⟩
    |halt x w'=>simp only[Oper.quietUpon]at h3
  ·exact za9 (fun a w' h2=>let ⟨h',h3,h4⟩:=h2;⟨h',h3.1,h4⟩) (fun _ _ _ h=>h.elim) (hh w hw)
 ·rename_i hg
  simp only[hg]at hh
  exact⟨h,hw,hh⟩
/-- the operations in the order of a list -/
def seqS (P:Program)(W:World)(Q:Act→List zah→Prop):List Item→Act→List zah→Prop
 |[],a,h=>Q a h
 |it::rest,a,h=>opI P W it (seqS P W Q rest) a h
theorem zeG {kd:Nat→Kd}{kp:List zah}{ops:Array Oper}{Q:Act→List zah→Prop}{Q':Exit→Act→World→Prop}(hQ:∀a h w,Rep W h w→Q a h→Q' .normal a w):
 ∀(l:List Nat) (a:Act) (h:List zah) (w:World),(∀i∈l,i<ops.size)→Rep W h w→seqS P W Q (l.filterMap (zaW kd kp ops)) a h→wpOps P ops Q' l a w
 |[],a,h,w,_,hw,hh=>by simp only[wpOps];exact hQ a h w hw hh
 |i::l,a,h,w,hl,hw,hh=>by
  rw[wpOps_cons]
  have hi:zaW kd kp ops i=some ⟨kd i,kp,ops[i]'(hl i (by simp)),(ops[i]'(hl i (by simp))).guard.map fun jb=>((ops[jb.1]?).bind (·.dst),jb.2)⟩:=by
   unfold zaW;rw[Array.getElem?_eq_getElem (hl i (by simp))];rfl
  rw[List.filterMap_cons,hi]at hh
  exact wpOp_mono (fun a' w' ⟨h',hw',hk⟩=>zeG hQ l a' h' w' (fun j hj=>hl j (by simp[hj])) hw' hk) (zgy hi hw hh)
def zdx (ops:Array Oper)(kd:Nat→Kd)(kp:List zah):List Item:=(List.range ops.size).filterMap (zaW kd kp ops)
theorem ze1 {kd:Nat→Kd}{kp:List zah}{ops:Array Oper}{Q:Act→List zah→Prop}{Q':Exit→Act→World→Prop}(hQ:∀a h w,Rep W h w→Q a h→Q' .normal a w){id:Nat}{a:Act}{h:List zah}{w:World}
 (hw:Rep W h w) (hh:seqS P W Q (zdx ops kd kp) a h):(Code.region id ops false).wp P Q' a w:=
 wp_region (zeG hQ _ a h w (fun i hi=>by simpa using hi) hw hh)
/-- whatever order is picked from here on -/
def anyS (P:Program)(W:World)(kd:Nat→Kd)(kp:List zah)(ops:Array Oper)(Q:Act→List zah→Prop):Nat→Array Bool→Act→List zah→Prop
 |0,listed,a,h=>Region.ready .any ops listed=[]∧Q a h
 |n+1,listed,a,h=>(Region.ready .any ops listed=[]→Q a h)∧
   ∀i∈Region.ready .any ops listed,∀it,zaW kd kp ops i=some it→opI P W it (anyS P W kd kp ops Q n (listed.setIfInBounds i true)) a h
theorem zcp {kd:Nat→Kd}{kp:List zah}{ops:Array Oper}{listed:Array Bool}{i:Nat}(h:i∈Region.ready .any ops listed):∃it,zaW kd kp ops i=some it:=by
 obtain⟨_,o,ho,_⟩:=mem_ready.1 h
 exact⟨_,by unfold zaW;rw[ho];rfl⟩
theorem zcq {kd:Nat→Kd}{kp:List zah}{ops:Array Oper}{Q:Act→List zah→Prop}{Q':Exit→Act→World→Prop}(hQ:∀a h w,Rep W h w→Q a h→Q' .normal a w):
 ∀(n:Nat) (listed:Array Bool) (a:Act) (h:List zah) (w:World),Rep W h w→anyS P W kd kp ops Q n listed a h→wpAny P .any ops Q' n listed a w
 |0,_,a,h,w,hw,hh=>⟨hh.1,hQ a h w hw hh.2⟩
 |n+1,_,a,h,w,hw,hh=>⟨fun h0=>hQ a h w hw (hh.1 h0),fun i hi=>by
   obtain⟨it,hit⟩:=zcp (kd:=kd) (kp:=kp) hi
   exact wpOp_mono (fun a' w' ⟨h',hw',hk⟩=>zcq hQ n _ a' h' w' hw' hk) (zgy hit hw (hh.2 i hi it hit))⟩
def zbz (P:Program)(W:World)(it:Item)(v:Value)(a:Act)(h:List zah):Prop:=
 (gOk it.g a.tmps=true∧((it.kd=.pure∧∀w,(execOp a.eval it.o).run P w=.ok (.value v) w)∨
   (it.kd=.quiet∧∀h',(∀c∈h,c∈h')→∀w,Rep W h' w→it.o.quietAt P a (Rep W h') w v)∨
   (it.kd=.look∧((∀w,(execOp a.eval it.o).run P w=.ok (.value v) w)∨((∀c∈it.keep,c∈h)∧∀h',(∀c∈it.keep,c∈h')→∀w,Rep W h' w→it.o.quietAt P a (Rep W h') w v)))))∨
 (gOk it.g a.tmps=false∧v=undef)
theorem zbz.opI {it:Item}{v:Value}{a:Act}{h:List zah}{K:Act→List zah→Prop}(hy:zbz P W it v a h)(hk:K (a.put it.o.dst v) h):opI P W it K a h:=by
 unfold Sl.opI
 rcases hy with ⟨hg,⟨hkd,hv⟩|⟨hkd,hv⟩|⟨hkd,hv⟩⟩|⟨hg,rfl⟩
 ·simp only[hg,hkd,if_true];exact⟨v,hv,hk⟩
 ·simp only[hg,hkd,if_true];exact⟨v,hv,hk⟩
 ·simp only[hg,hkd,if_true];exact⟨v,hv,hk⟩
 ·simp only[hg,Bool.false_eq_true,if_false];exact hk
theorem zde {it:Item}{a:Act}{h:List zah}{K:Act→List zah→Prop}(hkd:it.kd=.pure∨it.kd=.quiet∨it.kd=.look)(hh:opI P W it K a h):∃v,zbz P W it v a h∧K (a.put it.o.dst v) h:=by
 unfold opI at hh
 by_cases hg:gOk it.g a.tmps=true
 ·simp only[hg,if_true]at hh
  rcases hkd with hkd|hkd|hkd<;>simp only[hkd]at hh<;>obtain⟨v,h1,h2⟩:=hh
  ·exact⟨v,.inl ⟨hg,.inl ⟨hkd,h1⟩⟩,h2⟩
  ·exact⟨v,.inl ⟨hg,.inr (.inl ⟨hkd,h1⟩)⟩,h2⟩
  ·exact⟨v,.inl ⟨hg,.inr (.inr ⟨hkd,h1⟩)⟩,h2⟩
 ·simp only[hg]at hh
  exact⟨undef,.inr ⟨by simpa using hg,rfl⟩,hh⟩
/-- what 'it' looks at is the same in both -/
def Same (it:Item)(a a':Act):Prop:=execOp a'.eval it.o=execOp a.eval it.o∧gOk it.g a'.tmps=gOk it.g a.tmps
theorem zbz.same {it:Item}{v:Value}{a a':Act}{h h':List zah}(hy:zbz P W it v a h)(hs:Same it a a')(hh:it.kd=.pure∨(∀c∈h,c∈h')∨(it.kd=.look∧((∀c∈it.keep,c∈h)→∀c∈it.keep,c∈h'))):zbz P W it v a' h':=by
 unfold zbz at*
 rw[hs.2]
 rcases hy with ⟨hg,⟨hkd,hv⟩|⟨hkd,hv⟩|⟨hkd,hv⟩⟩|hy
 ·exact .inl ⟨hg,.inl ⟨hkd,fun w=>by rw[hs.1];exact hv w⟩⟩
 ·refine .inl ⟨hg,.inr (.inl ⟨hkd,fun h2 hsub w hw=> ?_⟩)⟩
  have hh2:∀c∈h,c∈h':=by
   rcases hh with e|e|e
   ·rw[hkd]at e;cases e
   ·exact e
   ·rw[hkd]at e;cases e.1
  have:=hv h2 (fun c hc=>hsub c (hh2 c hc)) w hw
  unfold Oper.quietAt at*
  rwa[hs.1]
 ·refine .inl ⟨hg,.inr (.inr ⟨hkd,?_⟩)⟩
  rcases hv with hv|⟨hk,hv⟩
  ·exact .inl fun w=>by rw[hs.1];exact hv w
  ·refine .inr ⟨?_,fun h2 hsub w hw=> ?_⟩
   ·rcases hh with e|e|e
    ·rw[hkd]at e;cases e
    ·exact fun c hc=>e c (hk c hc)
    ·exact e.2 hk
   ·have:=hv h2 hsub w hw
    unfold Oper.quietAt at*
    rwa[hs.1]
 ·exact .inr hy
variable {kd : Nat → Kd} {kp : List zah} {ops : Array Oper}
theorem zfj {i j:Nat}{iti itj:Item}(hi:zaW kd kp ops i=some iti)(hj:zaW kd kp ops j=some itj)(hap:iti.o.apart ops itj.o=true)
 (hsel:∀(j:Nat) (o:Oper) cs b,ops[j]? =some o→o.op≠ .select cs b) {v:Value} {a:Act} {w:World} {K:Act→World→Prop}
 (h:itj.o.wp P (a.put iti.o.dst v) w K (fun _ _ _=>False)):
 itj.o.wp P a w (fun a' w'=>Same iti a a'∧K (a'.put iti.o.dst v) w') (fun _ _ _=>False):=by
 obtain⟨h1,h2,h3⟩:=Oper.apart_spec hap
 obtain⟨hoi,_⟩:=zbF hi
 obtain⟨hoj,_⟩:=zbF hj
 have same:∀(b:Act),b.tmps=a.tmps→∀u,Same iti a (b.put itj.o.dst u):=fun b hb u=>by
  have e1:b.eval=a.eval:=by funext x;cases x<;>simp[Act.eval,hb]
  refine⟨?_,?_⟩
  ·rw[execOp_put (ops:=ops) iti.o (fun cs b=>hsel i _ cs b hoi) b itj.o.dst u h3,e1]
  ·rw[zcI hi,zcI hi,wanted_put (ops:=ops) iti.o b itj.o.dst u h3,hb]
 unfold Oper.wp at*
 rw[execOp_put (ops:=ops) itj.o (fun cs b=>hsel j _ cs b hoj) a iti.o.dst v h1]at h
 generalize (execOp a.eval itj.o).run P w=r at*
 cases r with
 |ok n w'=>
  cases n<;>simp only[Oper.upon]at h ⊢
  case value u=>exact⟨same a rfl u,by rw[←Act.put_comm a v u h2];exact h⟩
  case skip=>exact⟨same a rfl _,by rw[←Act.put_comm a v undef h2];exact h⟩
  case defer d=>
   refine⟨same {a with defers:=d::a.defers} rfl _,?_⟩
   rw[←Act.put_comm _ v undef h2,←Act.put_defers]
   exact h
  case enter f args=>
   refine Calls.mono h fun e w'' he=> ?_
   cases e with
   |returned u=>exact⟨same a rfl u,by rw[←Act.put_comm a v u h2];exact he⟩
   |panicked c=>exact he
   |outgrown=>exact he
  case row row args=>exact Rows.mono h fun u w'' he=>⟨same a rfl u,by rw[←Act.put_comm a v u h2];exact he⟩
 |halt x w'=>
  cases x<;>simp only[Oper.upon]at h ⊢
theorem zgG {i j:Nat}{iti itj:Item}(hi:zaW kd kp ops i=some iti)(hj:zaW kd kp ops j=some itj)(hap:iti.o.apart ops itj.o=true)
 (hsel:∀(j:Nat) (o:Oper) cs b,ops[j]? =some o→o.op≠ .select cs b) (hkk:iti.kd=.pure∨(itj.kd≠ .write∧(itj.kd=.grow→iti.kd=.look)))
 {v:Value} {a:Act} {h:List zah} {K:Act→List zah→Prop} (hy:zbz P W iti v a h) (hh:opI P W itj K (a.put iti.o.dst v) h):
 opI P W itj (fun a' h'=>zbz P W iti v a' h'∧K (a'.put iti.o.dst v) h') a h:=by
 obtain⟨h1,h2,h3⟩:=Oper.apart_spec hap
 obtain⟨hoi,_⟩:=zbF hi
 obtain⟨hoj,_⟩:=zbF hj
 have same:∀u,Same iti a (a.put itj.o.dst u):=fun u=>
  ⟨execOp_put (ops:=ops) iti.o (fun cs b=>hsel i _ cs b hoi) a itj.o.dst u h3,by rw[zcI hi,zcI hi,wanted_put (ops:=ops) iti.o a itj.o.dst u h3]⟩
 have hex:execOp (a.put iti.o.dst v).eval itj.o=execOp a.eval itj.o:=execOp_put (ops:=ops) itj.o (fun cs b=>hsel j _ cs b hoj) a iti.o.dst v h1
 have hgk:gOk itj.g (a.put iti.o.dst v).tmps=gOk itj.g a.tmps:=by rw[zcI hj,zcI hj,wanted_put (ops:=ops) itj.o a iti.o.dst v h1]
 unfold opI at*
 rw[hgk]at hh
 split
 ·rename_i hg
  simp only[hg,if_true]at hh
  split<;>rename_i hk<;>simp only[hk]at hh
  ·obtain⟨u,hu,hn⟩:=hh
   exact⟨u,fun w=>by rw[←hex];exact hu w,hy.same (same u) (.inr (.inl fun _ hc=>hc)),by rw[←Act.put_comm a v u h2];exact hn⟩
  ·obtain⟨u,hu,hn⟩:=hh
   refine⟨u,fun h' hs w hw=> ?_,hy.same (same u) (.inr (.inl fun _ hc=>hc)),by rw[←Act.put_comm a v u h2];exact hn⟩
   have:=hu h' hs w hw
   unfold Oper.quietAt at*
   rwa[hex]at this
  ·exact fun w hw=>za9 (fun a' w' ⟨hsm,cs,h4,h5⟩=>⟨cs,h4,hy.same hsm (.inr (.inl fun _ hc=>List.mem_append_right _ hc)),h5⟩) (fun _ _ _ h=>h) (zfj hi hj hap hsel (hh w hw))
  ·have hp:=hkk.resolve_right (fun hne=>hne.1 hk)
   exact fun w hw=>za9 (fun a' w' ⟨hsm,cs,h4,h5⟩=>⟨cs,h4,hy.same hsm (.inl hp),h5⟩) (fun _ _ _ h=>h) (zfj hi hj hap hsel (hh w hw))
  ·obtain⟨u,hu,hn⟩:=hh
   refine⟨u,?_,hy.same (same u) (.inr (.inl fun _ hc=>hc)),by rw[←Act.put_comm a v u h2];exact hn⟩
   rcases hu with hu|⟨hu1,hu2⟩
   ·exact .inl fun w=>by rw[←hex];exact hu w
   ·refine .inr ⟨hu1,fun h' hs w hw=> ?_⟩
    have:=hu2 h' hs w hw
    unfold Oper.quietAt at*
    rwa[hex]at this
  ·have hke:iti.keep=itj.keep:=by rw[zdO hi,zdO hj]
   refine fun w hw=>za9 (fun a' w' ⟨hsm,h',h4,h5⟩=>⟨h',h4,hy.same hsm ?_,h5⟩) (fun _ _ _ h=>h) (zfj hi hj hap hsel (hh w hw))
   rcases hkk with hp|⟨_,hp⟩
   ·exact .inl hp
   ·exact .inr (.inr ⟨hp hk,by rw[hke];exact h4.2⟩)
 ·rename_i hg
  simp only[hg]at hh
  exact⟨hy.same (same _) (.inr (.inl fun _ hc=>hc)),by rw[←Act.put_comm a v undef h2];exact hh⟩
theorem zdf {Q:Act→List zah→Prop}{i:Nat}{iti:Item}{v:Value}(hi:zaW kd kp ops i=some iti)(hsel:∀(j:Nat) (o:Oper) cs b,ops[j]? =some o→o.op≠ .select cs b)
 (D:List Nat)(hD:∀j∈D,∀oj,ops[j]? =some oj→∃e∈oj.after,Region.binds .any e=true∧(e.on=i∨e.on∈D)):
 ∀(fuel:Nat) (listed:Array Bool) (a:Act) (h:List zah),
  (∀j oj,ops[j]? =some oj→j≠i→listed.getD j true=false→j∉D→iti.o.apart ops oj=true∧(iti.kd=.pure∨(kd j≠ .write∧(kd j=.grow→iti.kd=.look))))→
  (∀j∈D,listed.getD j true=false)→i∈Region.ready .any ops listed→zbz P W iti v a h→
  anyS P W kd kp ops Q fuel (listed.setIfInBounds i true) (a.put iti.o.dst v) h→anyS P W kd kp ops Q (fuel+1) listed a h:=by
 intro fuel
 induction fuel with
 |zero=>
  intro listed a h _ _ hr hy H
  refine⟨fun h=>(by rw[h]at hr;cases hr),fun j hj itj hitj=> ?_⟩
  by_cases hji:j=i
  ·subst hji
   obtain rfl:iti=itj:=by rw[hi]at hitj;exact Option.some.inj hitj
   exact hy.opI H
  ·have:=ready_mono hj hji
   rw[H.1]at this
   cases this
 |succ fuel ih=>
  intro listed a h hfree hDl hr hy H
  refine⟨fun h=>(by rw[h]at hr;cases hr),fun j hj itj hitj=> ?_⟩
  by_cases hji:j=i
  ·subst hji
   obtain rfl:iti=itj:=by rw[hi]at hitj;exact Option.some.inj hitj
   exact hy.opI H
  ·have h1:=H.2 j (ready_mono hj hji) itj hitj
   obtain⟨hjun,oj,hoj,hall⟩:=mem_ready.1 hj
   have hoj':itj.o=oj:=by have:=(zbF hitj).1;rw[hoj]at this;exact(Option.some.inj this).symm
   have hun:∀k,listed.getD k true=false→listed.getD k false=true→False:=fun k h0 h1=>by
    rcases Nat.lt_or_ge k listed.size with h'|h'
    ·simp[h']at h0 h1;rw[h0]at h1;cases h1
    ·simp[Array.getElem?_eq_none h']at h1
   have hjD:j∉D:=fun hjD=>by
    obtain⟨e,he,hb,hon⟩:=hD j hjD oj hoj
    have hl:=hall e he hb
    rcases hon with hon|hon
    ·rw[hon]at hl;exact hun i (mem_ready.1 hr).1 hl
    ·exact hun _ (hDl _ hon) hl
   have hap:=hfree j oj hoj hji hjun hjD
   have hkj:itj.kd=kd j:=(zbF hitj).2
   have h2:=zgG hi hitj (by rw[hoj'];exact hap.1) hsel (by rw[hkj];exact hap.2) hy h1
   refine zcf (fun a' h' h3=>ih (listed.setIfInBounds j true) a' h' ?_ ?_ (ready_mono hr (Ne.symm hji)) h3.1 ?_) h2
   ·intro k ok hk hki hunk hkD
    refine hfree k ok hk hki ?_ hkD
    by_cases hjk:j=k
    ·subst hjk;exact hjun
    ·rw[getD_set_ne true hjk]at hunk;exact hunk
   ·intro k hkD
    have hjk:j≠k:=fun e=>hjD (e▸hkD)
    rw[getD_set_ne true hjk]
    exact hDl k hkD
   ·rw[Array.setIfInBounds_comm _ _ hji]
    exact h3.2
/-! ### the plan: an order that serves for all -/
def desc (ops:Array Oper)(bef:Array Nat)(listed:Array Bool)(i:Nat):List Nat:=
 (List.range ops.size).filter fun j=> !listed.getD j true&&(bef.getD j 0).testBit i
def zdg (kd:Nat→Kd)(ops:Array Oper)(listed:Array Bool)(i:Nat)(D:List Nat):Bool:=
 (Region.ready .any ops listed).contains i&&(kd i== .pure||(kd i== .quiet||kd i== .look))&&
 ((List.range ops.size).all fun j=>j==i||listed.getD j true||D.contains j||(match ops[j]?,ops[i]? with
   |some oj,some oi=>oi.apart ops oj&&(kd i== .pure||(kd j != .write&&(kd j != .grow||kd i== .look)))
   |_,_=>false))&&
 (D.all fun j=> !listed.getD j true&&(match ops[j]? with
   |some oj=>oj.after.any fun e=>Region.binds .any e&&(e.on==i||D.contains e.on)
   |none=>true))
def zcJ (kd:Nat→Kd)(ops:Array Oper)(bef:Array Nat):List Nat→Array Bool→Bool
 |[],listed=>Region.ready .any ops listed==[]
 |i::rest,listed=>(Region.ready .any ops listed==[i]||zdg kd ops listed i (desc ops bef listed i))&&zcJ kd ops bef rest (listed.setIfInBounds i true)
theorem zcr {Q:Act→List zah→Prop}{bef:Array Nat}(hs:Region.noSelect ops=true):∀(l:List Nat) (listed:Array Bool) (a:Act) (h:List zah),zcJ kd ops bef l listed=true→
 seqS P W Q (l.filterMap (zaW kd kp ops)) a h→anyS P W kd kp ops Q l.length listed a h
 |[],listed,a,h,hp,hh=>⟨by simpa [zcJ]using hp,hh⟩
 |i::l,listed,a,h,hp,hh=>by
  simp only[zcJ,Bool.and_eq_true,Bool.or_eq_true,beq_iff_eq]at hp
  obtain⟨hp1,hp2⟩:=hp
  have hmem:i∈Region.ready .any ops listed:=by
   rcases hp1 with h1|h1
   ·rw[h1];simp
   ·simp only[zdg,Bool.and_eq_true]at h1;simpa using h1.1.1.1
  obtain⟨it,hit⟩:=zcp (kd:=kd) (kp:=kp) hmem
  rw[List.filterMap_cons,hit]at hh
  rcases hp1 with h1|h1
  ·refine⟨fun h0=>(by rw[h0]at h1;cases h1),fun j hj itj hitj=> ?_⟩
   rw[h1]at hj
   obtain rfl:j=i:=by simpa using hj
   obtain rfl:it=itj:=by rw[hit]at hitj;exact Option.some.inj hitj
   exact zcf (fun a' h' hk=>zcr hs l _ a' h' hp2 hk) hh
  ·simp only[zdg,Bool.and_eq_true,Bool.or_eq_true,beq_iff_eq,List.all_eq_true,List.mem_range]at h1
   obtain⟨⟨⟨hc,hk⟩,hall⟩,hD⟩:=h1
   obtain⟨hoi,hki⟩:=zbF hit
   obtain⟨v,hy,hK⟩:=zde (by rw[hki];exact hk) hh
   refine zdf hit (Region.noSelect_spec hs) (desc ops bef listed i) ?_ l.length listed a h ?_ ?_ hmem hy (zcr hs l _ _ _ hp2 hK)
   ·intro j hjD oj hoj
    have h2:=(hD j hjD).2
    simp only[hoj]at h2
    obtain⟨e,he,hb⟩:=Array.any_eq_true'.1 h2
    simp only[Bool.and_eq_true,Bool.or_eq_true,beq_iff_eq,List.contains_iff_mem]at hb
    exact⟨e,he,hb.1,hb.2⟩
   ·intro j oj hoj hji hun hjD
    have h2:=hall j (Array.getElem?_eq_some_iff.1 hoj).1
    simp only[hoj,hoi,hun,hji,false_or,Bool.false_eq_true,List.contains_iff_mem,hjD,Bool.and_eq_true,Bool.or_eq_true,beq_iff_eq,bne_iff_ne]at h2
    refine⟨h2.1,?_⟩
    rw[hki]
    rcases h2.2 with e|⟨e1,e2⟩
    ·exact .inl e
    ·exact .inr ⟨e1,fun e3=>e2.resolve_left (fun e4=>e4 e3)⟩
   ·intro j hjD
    simpa using (hD j hjD).1
/-- plans that part where several makings may come first -/
inductive Plan where
 |nil
 |step (i:Nat) (p:Plan)
 |alt (p q:Plan)
def Plan.heads :Plan→List Nat
 | .nil=>[]
 | .step i _=>[i]
 | .alt p q=>p.heads++q.heads
def Plan.ok (kd:Nat→Kd)(ops:Array Oper)(bef:Array Nat):Bool→Plan→Array Bool→Bool
 |false,.nil,listed=>Region.ready .any ops listed==[]
 |true,.nil,_=>false
 |false,.step i p,listed=>(Region.ready .any ops listed==[i]||zdg kd ops listed i (desc ops bef listed i))&&Plan.ok kd ops bef false p (listed.setIfInBounds i true)
 |true,.step i p,listed=>(Region.ready .any ops listed).contains i&&Plan.ok kd ops bef false p (listed.setIfInBounds i true)
 |false,.alt p q,listed=>(Region.ready .any ops listed).all (fun i=>(p.heads++q.heads).contains i)&&(Plan.ok kd ops bef true p listed&&Plan.ok kd ops bef true q listed)&& !(Region.ready .any ops listed==[])
 |true,.alt p q,listed=>Plan.ok kd ops bef true p listed&&Plan.ok kd ops bef true q listed
def Plan.len :Plan→Nat
 | .nil=>0
 | .step _ p=>p.len+1
 | .alt p _=>p.len
def Plan.even :Plan→Bool
 | .nil=>true
 | .step _ p=>p.even
 | .alt p q=>p.even&&q.even&&p.len==q.len
def seqP (P:Program)(W:World)(kd:Nat→Kd)(kp:List zah)(ops:Array Oper)(Q:Act→List zah→Prop):Plan→Act→List zah→Prop
 | .nil,a,h=>Q a h
 | .step i p,a,h=>∀it,zaW kd kp ops i=some it→opI P W it (seqP P W kd kp ops Q p) a h
 | .alt p q,a,h=>seqP P W kd kp ops Q p a h∧seqP P W kd kp ops Q q a h
theorem zbG {Q:Act→List zah→Prop}{bef:Array Nat}{i:Nat}:∀(p:Plan) (listed:Array Bool) (a:Act) (h:List zah),Plan.ok kd ops bef true p listed=true→p.even=true→i∈p.heads→seqP P W kd kp ops Q p a h→
 ∃p',Plan.ok kd ops bef false p' (listed.setIfInBounds i true)=true∧p'.even=true∧p'.len+1=p.len∧∀it,zaW kd kp ops i=some it→opI P W it (seqP P W kd kp ops Q p') a h
 | .nil,_,_,_,_,_,hi,_=>by simp[Plan.heads]at hi
 | .step j p,listed,a,h,hok,he,hi,hs=>by
   simp only[Plan.heads,lms]at hi
   subst hi
   simp only[Plan.ok,Bool.and_eq_true]at hok
   exact⟨p,hok.2,he,rfl,hs⟩
 | .alt p q,listed,a,h,hok,he,hi,hs=>by
   simp only[Plan.ok,Bool.and_eq_true]at hok
   simp only[Plan.even,Bool.and_eq_true,beq_iff_eq]at he
   simp only[Plan.heads,lma]at hi
   rcases hi with hi|hi
   ·obtain⟨p',h1,h2,h3,h4⟩:=zbG p listed a h hok.1 he.1.1 hi hs.1
    exact⟨p',h1,h2,h3,h4⟩
   ·obtain⟨p',h1,h2,h3,h4⟩:=zbG q listed a h hok.2 he.1.2 hi hs.2
    exact⟨p',h1,h2,by simp only[Plan.len];omega,h4⟩
theorem zbV {Q:Act→List zah→Prop}{bef:Array Nat}(hs:Region.noSelect ops=true):∀(n:Nat) (p:Plan) (listed:Array Bool) (a:Act) (h:List zah),p.len=n→Plan.ok kd ops bef false p listed=true→p.even=true→
 seqP P W kd kp ops Q p a h→anyS P W kd kp ops Q n listed a h
 |n,.nil,listed,a,h,hn,hp,_,hh=>by
  simp only[Plan.len]at hn
  subst hn
  exact⟨by simpa [Plan.ok]using hp,hh⟩
 |0,.step i p,listed,a,h,hn,_,_,_=>by simp[Plan.len]at hn
 |n+1,.step i p,listed,a,h,hn,hp,he,hh=>by
  simp only[Plan.len]at hn
  simp only[Plan.ok,Bool.and_eq_true,Bool.or_eq_true,beq_iff_eq]at hp
  obtain⟨hp1,hp2⟩:=hp
  have hmem:i∈Region.ready .any ops listed:=by
   rcases hp1 with h1|h1
   ·rw[h1];simp
   ·simp only[zdg,Bool.and_eq_true]at h1;simpa using h1.1.1.1
  obtain⟨it,hit⟩:=zcp (kd:=kd) (kp:=kp) hmem
  have hh1:=hh it hit
  rcases hp1 with h1|h1
  ·refine⟨fun h0=>(by rw[h0]at h1;cases h1),fun j hj itj hitj=> ?_⟩
   rw[h1]at hj
   obtain rfl:j=i:=by simpa using hj
   obtain rfl:it=itj:=by rw[hit]at hitj;exact Option.some.inj hitj
   exact zcf (fun a' h' hk=>zbV hs n p _ a' h' (by omega) hp2 he hk) hh1
  ·simp only[zdg,Bool.and_eq_true,Bool.or_eq_true,beq_iff_eq,List.all_eq_true,List.mem_range]at h1
   obtain⟨⟨⟨hc,hk⟩,hall⟩,hD⟩:=h1
   obtain⟨hoi,hki⟩:=zbF hit
   obtain⟨v,hy,hK⟩:=zde (by rw[hki];exact hk) hh1
   refine zdf hit (Region.noSelect_spec hs) (desc ops bef listed i) ?_ n listed a h ?_ ?_ hmem hy (zbV hs n p _ _ _ (by omega) hp2 he hK)
   ·intro j hjD oj hoj
    have h2:=(hD j hjD).2
    simp only[hoj]at h2
    obtain⟨e,he,hb⟩:=Array.any_eq_true'.1 h2
    simp only[Bool.and_eq_true,Bool.or_eq_true,beq_iff_eq,List.contains_iff_mem]at hb
    exact⟨e,he,hb.1,hb.2⟩
   ·intro j oj hoj hji hun hjD
    have h2:=hall j (Array.getElem?_eq_some_iff.1 hoj).1
    simp only[hoj,hoi,hun,hji,false_or,Bool.false_eq_true,List.contains_iff_mem,hjD,Bool.and_eq_true,Bool.or_eq_true,beq_iff_eq,bne_iff_ne]at h2
    refine⟨h2.1,?_⟩
    rw[hki]
    rcases h2.2 with e|⟨e1,e2⟩
    ·exact .inl e
    ·exact .inr ⟨e1,fun e3=>e2.resolve_left (fun e4=>e4 e3)⟩
   ·intro j hjD
    simpa using (hD j hjD).1
 |0,.alt p q,listed,a,h,hn,hp,he,hh=>by
  simp only[Plan.ok,Bool.and_eq_true,Bool.not_eq_true',beq_eq_false_iff_ne]at hp
  obtain⟨⟨h1,h2,h3⟩,h4⟩:=hp
  cases hr:Region.ready .any ops listed with
  |nil=>exact absurd hr h4
  |cons i l=>
   rw[hr]at h1
   simp only[List.all_cons,Bool.and_eq_true,List.contains_iff_mem]at h1
   simp only[Plan.even,Bool.and_eq_true,beq_iff_eq]at he
   have h5:i∈(Plan.alt p q).heads:=h1.1
   obtain⟨p',_,_,h6,_⟩:=zbG (kd:=kd) (ops:=ops) (bef:=bef) (Plan.alt p q) listed a h (by simp only[Plan.ok,Bool.and_eq_true];exact⟨h2,h3⟩) (by simp only[Plan.even,Bool.and_eq_true,beq_iff_eq];exact he) h5 hh
   omega
 |n+1,.alt p q,listed,a,h,hn,hp,he,hh=>by
  simp only[Plan.ok,Bool.and_eq_true,Bool.not_eq_true',beq_eq_false_iff_ne]at hp
  obtain⟨⟨h1,h2,h3⟩,h4⟩:=hp
  refine⟨fun h0=>absurd h0 h4,fun i hi it hit=> ?_⟩
  have h5:i∈(Plan.alt p q).heads:=by
   have:=List.all_eq_true.1 h1 i hi
   simpa [Plan.heads]using this
  obtain⟨p',k1,k2,k3,k4⟩:=zbG (kd:=kd) (ops:=ops) (bef:=bef) (Plan.alt p q) listed a h (by simp only[Plan.ok,Bool.and_eq_true];exact⟨h2,h3⟩) he h5 hh
  exact zcf (fun a' h' hk=>zbV hs n p' _ a' h' (by omega) k1 k2 hk) (k4 it hit)
def zcK (ops:Array Oper)(kd:Nat→Kd)(kp:List zah)(order:List Nat):List Item:=order.filterMap (zaW kd kp ops)
theorem zek {Q:Act→List zah→Prop}{Q':Exit→Act→World→Prop}(hQ:∀a h w,Rep W h w→Q a h→Q' .normal a w){order:List Nat}{id:Nat}{a:Act}{h:List zah}{w:World}
 (hm:P.follows .mixedOrders=true)
 (hp:(Region.noSelect ops&&(order.length==ops.size&&zcJ kd ops (Region.before ops) order (Array.replicate ops.size false)))=true)
 (hw:Rep W h w) (hh:seqS P W Q (zcK ops kd kp order) a h):(Code.region id ops true).wp P Q' a w:=by
 simp only[Bool.and_eq_true,beq_iff_eq]at hp
 refine wp_region_any hm ?_
 rw[←hp.2.1]
 refine zcq (kd:=kd) (kp:=kp) (Q:=Q) hQ _ _ a h _ (hw.drawn _) ?_
 exact zcr hp.1 order _ a h (by rw[hp.2.1];exact hp.2.2) hh
theorem zcL {Q:Act→List zah→Prop}{Q':Exit→Act→World→Prop}(hQ:∀a h w,Rep W h w→Q a h→Q' .normal a w){p:Plan}{id:Nat}{a:Act}{h:List zah}{w:World}
 (hm:P.follows .mixedOrders=true)
 (hp:(Region.noSelect ops&&(p.len==ops.size&&(p.even&&Plan.ok kd ops (Region.before ops) false p (Array.replicate ops.size false))))=true)
 (hw:Rep W h w) (hh:seqP P W kd kp ops Q p a h):(Code.region id ops true).wp P Q' a w:=by
 simp only[Bool.and_eq_true,beq_iff_eq]at hp
 obtain⟨h1,h2,h3,h4⟩:=hp
 refine wp_region_any hm ?_
 refine zcq (kd:=kd) (kp:=kp) (Q:=Q) hQ _ _ a h _ (hw.drawn _) ?_
 exact zbV h1 ops.size p _ a h h2 h4 h3 hh
end
end Go.Sl
set_option linter.unusedSimpArgs false
set_option linter.unusedVariables false
namespace Go.Sl
open Go Go.RowKit
/-- what is known of a type -/
structure TI where
 desc:TypeDesc
 size:Nat
 bytes:Nat
 zero:Value
abbrev Tab :=List (Nat×TI)
def zaB (P:Program)(t:Nat)(ti:TI):Prop:=
 P.underlying t=some ti.desc∧∃i,P.info? t=some i∧i.size=ti.size∧i.bytes=ti.bytes∧i.zero=some ti.zero
def zbc (P:Program)(T:Tab):Prop:=∀t ti,T.lookup t=some ti→zaB P t ti
theorem zgH {P:Program}:zbc P []:=fun t ti h=>by simp at h
theorem zai {P:Program}{T:Tab}{t:Nat}{ti:TI}(h:zaB P t ti)(hT:zbc P T):zbc P ((t,ti)::T):=fun u ui hu=>by
 rw[List.lookup_cons]at hu
 split at hu
 ·rename_i he
  obtain rfl:u=t:=by simpa using he
  injection hu with hu
  subst hu
  exact h
 ·exact hT u ui hu
theorem zaD {P:Program}{t:Nat}{d:TypeDesc}{s b:Nat}{z:Value}(h:P.underlying t=some d)(hi:(P.info? t).map (fun i=>(i.size,i.bytes,i.zero))=some (s,b,some z)):zaB P t ⟨d,s,b,z⟩:=by
 cases hq:P.info? t with
 |none=>simp[hq]at hi
 |some i=>
  simp only[hq,Option.map_some,Option.some.injEq,Prod.mk.injEq]at hi
  exact⟨h,i,hq,hi.1,hi.2.1,hi.2.2⟩
abbrev Env :=List (Nat×Value)
structure za3 (N:Nat)(env:Env)(a:Act):Prop where
 size:a.tmps.size=N
 defers:a.defers=[]
 at_:∀t v,env.lookup t=some v→a.tmps[t]? =some v
def Env.put (env:Env)(d:Option Tmp)(v:Value):Env:=match d with
 |some d=>(d,v)::env
 |none=>env
def zg2 (N:Nat)(d:Option Tmp):Bool:=match d with
 |some d=>Nat.blt d N
 |none=>true
theorem za3.put {N:Nat}{env:Env}{a:Act}{d:Option Tmp}{v:Value}(h:za3 N env a)(hd:zg2 N d=true):za3 N (Env.put env d v) (a.put d v):=by
 cases d with
 |none=>exact h
 |some d=>
  have hlt:d<a.tmps.size:=by rw[h.size];simpa [zg2]using hd
  refine⟨by simpa [Act.put]using h.size,by simpa [Act.put]using h.defers,fun t u hu=> ?_⟩
  simp only[Env.put]at hu
  rw[List.lookup_cons]at hu
  simp only[Act.put]
  split at hu
  ·rename_i he
   obtain rfl:t=d:=by simpa using he
   injection hu with hu
   subst hu
   simp[hlt]
  ·rename_i he
   have hne:d≠t:=fun e=>by subst e;simp at he
   rw[Array.getElem?_setIfInBounds_ne hne]
   exact h.at_ t u hu
def zaR (env:Env):Operand→Option Value
 | .tmp t=>env.lookup t
 | .const v=>some v
 | .global g=>some (.pointer (some ⟨g,0,none⟩))
 | .func f=>some (.func (.func f) #[] #[])
theorem za3.eval {N:Nat}{env:Env}{a:Act}(h:za3 N env a){x:Operand}{v:Value}(hx:zaR env x=some v):a.eval x=v:=by
 cases x with
 |tmp t=>have:=h.at_ t v hx;simp[Act.eval,this]
 |const u=>simpa [zaR,Act.eval]using hx
 |global g=>simpa [zaR,Act.eval]using hx
 |func f=>simpa [zaR,Act.eval]using hx
def zbM (env:Env):List Operand→Option (List Value)
 |[]=>some []
 |x::xs=>match zaR env x,zbM env xs with
  |some v,some vs=>some (v::vs)
  |_,_=>none
theorem za3.evals {N:Nat}{env:Env}{a:Act}(h:za3 N env a):∀{xs:List Operand} {vs:List Value},zbM env xs=some vs→xs.map a.eval=vs
 |[],vs,hx=>by simp[zbM]at hx;simp[hx]
 |x::xs,vs,hx=>by
  unfold zbM at hx
  split at hx
  ·rename_i v us h1 h2
   injection hx with hx
   subst hx
   simp[h.eval h1,h.evals h2]
  ·cases hx
def zb2 :TypeDesc→Bool
 | .struct _| .array _ _=>true
 |_=>false
def zgI (T:Tab)(t:TypeId)(cs:List Value)(off:Nat):Option Value:=
 match T.lookup t with
 |none=>none
 |some ti=>if zb2 ti.desc then some (.agg ((cs.drop off).take ti.size).toArray)else cs[off]?
def cmpV (op:BinOp)(x y:Int):Option Value:=
 match op with
 | .eql=>some (.bool (x==y))
 | .neq=>some (.bool (x != y))
 | .lss=>some (.bool (decide (x<y)))
 | .leq=>some (.bool (decide (x≤y)))
 | .gtr=>some (.bool (decide (x>y)))
 | .geq=>some (.bool (decide (x≥y)))
 |_=>none
def zcC (T:Tab)(t:TypeId)(i:Nat):Option (Nat×TypeId):=
 match T.lookup t with
 |some ⟨.struct fs,_,_,_⟩=>(fs.toList[i]?).bind fun f=>match T.lookup f.type with
  |some ti=>if ti.size=0 then none else some (f.offset,f.type)
  |none=>none
 |_=>none
/-- what an operation yields that looks at its operands alone -/
def zcD (T:Tab)(env:Env):Op→Option Value
 | .move x=>zaR env x
 | .assign x=>zaR env x
 | .pick c x y=>match zaR env c with
   |some (.bool true)=>zaR env x
   |some (.bool false)=>zaR env y
   |_=>none
 | .nilCheck x=>match zaR env x with
   |some (.pointer (some ad))=>some (.pointer (some ad))
   |some (.func (.func f) a b)=>some (.func (.func f) a b)
   |_=>none
 | .fieldAddr t x i=>match zcC T t i,zaR env x with
   |some (off,_),some (.pointer (some ad))=>some (.pointer (some (ad.add off)))
   |_,_=>none
 | .field t x i=>match zcC T t i,zaR env x with
   |some (off,ft),some (.agg cs)=>zgI T ft cs.toList off
   |_,_=>none
 | .extract x i=>match zaR env x with
   |some (.tuple vs)=>vs.toList[i]?
   |_=>none
 | .makeFunc fn first captured=>match zbM env first.toList,zbM env captured.toList with
   |some a,some b=>some (.func fn a.toArray b.toArray)
   |_,_=>none
 | .unOp .not _ x=>match zaR env x with
   |some (.bool b)=>some (.bool (!b))
   |_=>none
 | .binOp op t x y _=>match zaR env x,zaR env y with
   |some (.int k a),some (.int k' b)=>if k=k' then(match op with
     | .add| .sub| .mul| .quo| .rem| .and| .or| .xor| .andNot| .shl| .shr=>none
     |_=>cmpV op a b)else none
   |some (.bool a),some (.bool b)=>(match T.lookup t with
    |some ⟨.bool,_,_,_⟩=>(match op with
     | .eql=>some (.bool (a==b))
     | .neq=>some (.bool (!(a==b)))
     |_=>none)
    |_=>none)
   |some (.pointer a),some (.pointer none)=>(match T.lookup t with
    |some ⟨.pointer _,_,_,_⟩=>(match op with
     | .eql=>some (.bool a.isNone)
     | .neq=>some (.bool (!a.isNone))
     |_=>none)
    |_=>none)
   |some (.slice a _ _),some (.slice none _ _)=>(match T.lookup t with
    |some ⟨.slice _,_,_,_⟩=>(match op with
     | .eql=>some (.bool a.isNone)
     | .neq=>some (.bool (!a.isNone))
     |_=>none)
    |_=>none)
   |_,_=>none
 | .call {callee:=.builtin .len,args:=⟨[x]⟩,argTypes:=⟨[t]⟩}=>match T.lookup t,zaR env x with
   |some ⟨.slice _,_,_,_⟩,some (.slice _ n _)=>some (.int .i64 n)
   |_,_=>none
 |_=>none
/-- what an operation on whole numbers yields ahead of its wrap -/
def zbN (T:Tab)(env:Env):Op→Option (IntKind×Int)
 | .binOp op _ x y _=>match zaR env x,zaR env y with
   |some (.int k a),some (.int k' b)=>if k=k' then(match op with
     | .add=>some (k,a+b)
     | .sub=>some (k,a - b)
     | .mul=>some (k,a*b)
     |_=>none)else none
   |_,_=>none
 | .unOp .neg _ x=>match zaR env x with
   |some (.int k a)=>some (k,0 - a)
   |_=>none
 | .convert s d x=>match T.lookup s,T.lookup d,zaR env x with
   |some ⟨.int _,_,_,_⟩,some ⟨.int k,_,_,_⟩,some (.int _ n)=>some (k,n)
   |_,_,_=>none
 |_=>none
section
variable {P : Program} {W : World} {T : Tab} {N : Nat} {env : Env} {a : Act}
theorem zaB.und {t:Nat}{ti:TI}(h:zaB P t ti):∀w:World,(underlying t).run P w=.ok ti.desc w:=fun w=>run_underlying h.1 w
theorem zaB.sz {t:Nat}{ti:TI}(h:zaB P t ti):∀w:World,(Go.sizeOf t).run P w=.ok ti.size w:=fun w=>by
 obtain⟨_,i,hi,h1,_⟩:=h
 simp[Go.sizeOf,typeInfo,hi,h1]
theorem zaB.zv {t:Nat}{ti:TI}(h:zaB P t ti):∀w:World,(zeroValue t).run P w=.ok ti.zero w:=fun w=>by
 obtain⟨_,i,hi,h1,_,h3⟩:=h
 simp[zeroValue,typeInfo,hi,h3]
theorem zaB.ag {t:Nat}{ti:TI}(h:zaB P t ti):∀w:World,(isAgg t).run P w=.ok (zb2 ti.desc) w:=fun w=>by
 have:=h.und w
 unfold isAgg
 simp only[Sem.run_bind,this,Result.andThen_ok]
 cases ti.desc<;>rfl
theorem zf2 (hT:zbc P T){t:TypeId}{cs:Array Value}{off:Nat}{v:Value}(h:zgI T t cs.toList off=some v)(w:World):(part t cs off).run P w=.ok v w:=by
 unfold zgI at h
 split at h
 ·cases h
 ·rename_i ti ht
  have g:=hT _ _ ht
  unfold part
  simp only[Sem.run_bind,g.ag,Result.andThen_ok]
  split at h
  ·rename_i ha
   injection h with h
   simp only[ha,if_true,Sem.run_bind,g.sz,Result.andThen_ok,Sem.run_pure]
   rw[←h]
   congr 2
   apply Array.ext'
   simp[Array.toList_extract]
  ·rename_i ha
   simp only[ha]
   have:cs[off]? =some v:=by simpa using h
   simp[this]
theorem zcg {t:TypeId}{i:Nat}{off:Nat}{ft:TypeId}(hT:zbc P T)(h:zcC T t i=some (off,ft)):
 ∃fs f,P.underlying t=some (.struct fs)∧fs[i]? =some f∧f.offset=off∧f.type=ft∧∃ti,zaB P ft ti∧ti.size≠0:=by
 unfold zcC at h
 split at h
 ·rename_i fs s b z hl
  have g:=(hT _ _ hl).1
  cases hf:fs.toList[i]? with
  |none=>simp[hf]at h
  |some f=>
   simp only[hf,Option.bind_some]at h
   split at h
   ·rename_i ti hti
    split at h
    ·cases h
    ·rename_i hz
     injection h with h
     injection h with h1 h2
     exact⟨fs,f,g,by simpa using hf,h1,h2,ti,by rw[←h2];exact hT _ _ hti,hz⟩
   ·cases h
 ·cases h
theorem zdh {t:TypeId}(g:P.underlying t=some .bool)(x y:Bool)(w:World):(Op.equal t (.bool x) (.bool y)).run P w=.ok (x==y) w:=by
 show(Op.equalIn (9999+1) t (.bool x) (.bool y)).run P w=_
 rw[Op.equalIn]
 simp only[Sem.run_bind,run_underlying g,Result.andThen_ok,Sem.run_pure]
theorem zdP {t e:TypeId}(g:P.underlying t=some (.pointer e))(x:Option Addr)(w:World):(Op.equal t (.pointer x) (.pointer none)).run P w=.ok x.isNone w:=by
 show(Op.equalIn (9999+1) t (.pointer x) (.pointer none)).run P w=_
 rw[Op.equalIn]
 simp only[Sem.run_bind,run_underlying g,Result.andThen_ok]
 cases x<;>rfl
theorem zcM {t e:TypeId}(g:P.underlying t=some (.slice e))(x:Option Addr)(n c n' c':Nat)(w:World):(Op.equal t (.slice x n c) (.slice none n' c')).run P w=.ok x.isNone w:=by
 show(Op.equalIn (9999+1) t (.slice x n c) (.slice none n' c')).run P w=_
 rw[Op.equalIn]
 simp only[Sem.run_bind,run_underlying g,Result.andThen_ok]
 cases x<;>rfl
theorem zfk {dst ty pos af g}{t:TypeId}{x y:Operand}{yt:TypeId}{u v:Value}{b:Bool}{w:World}(hx:a.eval x=u)(hy:a.eval y=v)
 (hg:∀w,(eqGuard .eql t x y u v).run P w=.ok () w)(hb:binOp .eql t u v=(do pure (.bool (←Op.equal t u v))))(he:(Op.equal t u v).run P w=.ok b w):
 (execOp a.eval ⟨dst,.binOp .eql t x y yt,ty,pos,af,g⟩).run P w=.ok (.value (.bool b)) w:=by
 simp only[execOp,hx,hy,Sem.run_bind,hg,Result.andThen_ok,hb,he,Sem.run_pure]
theorem zfl {dst ty pos af g}{t:TypeId}{x y:Operand}{yt:TypeId}{u v:Value}{b:Bool}{w:World}(hx:a.eval x=u)(hy:a.eval y=v)
 (hg:∀w,(eqGuard .neq t x y u v).run P w=.ok () w)(hb:binOp .neq t u v=(do pure (.bool (!(←Op.equal t u v)))))(he:(Op.equal t u v).run P w=.ok b w):
 (execOp a.eval ⟨dst,.binOp .neq t x y yt,ty,pos,af,g⟩).run P w=.ok (.value (.bool (!b))) w:=by
 simp only[execOp,hx,hy,Sem.run_bind,hg,Result.andThen_ok,hb,he,Sem.run_pure]
set_option linter.unusedSimpArgs false in
theorem zdQ (hT:zbc P T)(ha:za3 N env a){o:Oper}{v:Value}(h:zcD T env o.op=some v)(w:World):
 (execOp a.eval o).run P w=.ok (.value v) w:=by
 obtain⟨dst,op,ty,pos,af,g⟩:=o
 simp only at h
 unfold zcD at h
 split at h
 ·simp[execOp,ha.eval h]
 ·simp[execOp,ha.eval h]
 ·split at h
  ·rename_i h1;simp[execOp,ha.eval h1,ha.eval h,asBool]
  ·rename_i h1;simp[execOp,ha.eval h1,ha.eval h,asBool]
  ·cases h
 ·split at h
  ·rename_i h1;injection h with h;subst h;simp[execOp,ha.eval h1]
  ·rename_i h1;injection h with h;subst h;simp[execOp,ha.eval h1]
  ·cases h
 ·split at h
  ·rename_i off ft ad h1 h2
   injection h with h
   obtain⟨fs,f,hu,hf,ho,hft,ti,hg,hz⟩:=zcg hT h1
   subst ho hft
   simp[execOp,ha.eval h2,Instr.fieldAt,run_underlying hu,hf,Instr.sureAddr,fieldPlace,hg.sz,hz,h]
  ·cases h
 ·split at h
  ·rename_i off ft cs h1 h2
   obtain⟨fs,f,hu,hf,ho,hft,ti,hg,hz⟩:=zcg hT h1
   subst ho hft
   have hp:=zf2 hT h w
   simp[execOp,ha.eval h2,Instr.field,run_underlying hu,hf,asAgg,hp]
  ·cases h
 ·split at h
  ·rename_i vs h1
   have:vs[‹Nat›]? =some v:=by simpa using h
   simp[execOp,ha.eval h1,Instr.extract,this]
  ·cases h
 ·split at h
  ·rename_i fs cs h1 h2
   injection h with h
   have e1:=ha.evals h1
   have e2:=ha.evals h2
   have e3:∀l:Array Operand,Array.map a.eval l=(List.map a.eval l.toList).toArray:=fun l=>by apply Array.ext';simp
   simp only[execOp,Instr.makeFunc,←h,←e1,←e2,←e3]
   simp
  ·cases h
 ·split at h
  ·rename_i h1;injection h with h;simp[execOp,ha.eval h1,Op.unary,h]
  ·cases h
 ·split at h
  ·rename_i k m k' n h1 h2
   split at h
   ·rename_i hk
    subst hk
    split at h<;>first
     |(cases h;done)
     |(unfold cmpV at h
       split at h<;>first
        |(cases h;done)
        |(injection h with h;simp[execOp,ha.eval h1,ha.eval h2,eqGuard,binOp,Op.intCmp,←h]))
   ·cases h
  ·rename_i m n h1 h2
   split at h
   ·rename_i hl
    have g:=(hT _ _ hl).1
    split at h
    ·injection h with h;subst h;exact zfk (ha.eval h1) (ha.eval h2) (fun _=>by rfl) rfl (zdh g _ _ w)
    ·injection h with h;subst h;exact zfl (ha.eval h1) (ha.eval h2) (fun _=>by rfl) rfl (zdh g _ _ w)
    ·cases h
   ·cases h
  ·rename_i ad h1 h2
   split at h
   ·rename_i hl
    have g:=(hT _ _ hl).1
    split at h
    ·injection h with h;subst h;exact zfk (ha.eval h1) (ha.eval h2) (fun _=>by rfl) rfl (zdP g _ w)
    ·injection h with h;subst h;exact zfl (ha.eval h1) (ha.eval h2) (fun _=>by rfl) rfl (zdP g _ w)
    ·cases h
   ·cases h
  ·rename_i ad _ _ _ _ h1 h2
   split at h
   ·rename_i hl
    have g:=(hT _ _ hl).1
    split at h
    ·injection h with h;subst h;exact zfk (ha.eval h1) (ha.eval h2) (fun _=>by rfl) rfl (zcM g _ _ _ _ _ w)
    ·injection h with h;subst h;exact zfl (ha.eval h1) (ha.eval h2) (fun _=>by rfl) rfl (zcM g _ _ _ _ _ w)
    ·cases h
   ·cases h
  ·cases h
 ·split at h
  ·rename_i h1 h2
   have g:=(hT _ _ h1).1
   injection h with h
   simp[execOp,resolve,invoke,builtin,Builtin.len_,ha.eval h2,run_underlying g,goInt,←h]
  ·cases h
 ·cases h
set_option linter.unusedSimpArgs false in
theorem zbH (hT:zbc P T)(ha:za3 N env a){o:Oper}{k:IntKind}{e:Int}(h:zbN T env o.op=some (k,e))(w:World):
 (execOp a.eval o).run P w=.ok (.value (.int k (k.wrap e))) w:=by
 obtain⟨dst,op,ty,pos,af,g⟩:=o
 simp only at h
 unfold zbN at h
 split at h
 ·split at h
  ·rename_i k1 m k' n h1 h2
   split at h
   ·rename_i hk
    subst hk
    split at h<;>first
     |(cases h;done)
     |(injection h with h;injection h with h3 h4;subst h3 h4;simp[execOp,ha.eval h1,ha.eval h2,eqGuard,binOp,Op.intArith])
   ·cases h
  ·cases h
 ·split at h
  ·rename_i h1
   injection h with h;injection h with h3 h4;subst h3 h4
   simp[execOp,ha.eval h1,Op.unary,Op.intArith]
  ·cases h
 ·split at h
  ·rename_i h0 h1 h2
   injection h with h;injection h with h3 h4;subst h3 h4
   have g0:=(hT _ _ h0).1
   have g1:=(hT _ _ h1).1
   simp[execOp,ha.eval h2,convert,run_underlying g0,run_underlying g1,Conv.intToInt]
  ·cases h
 ·cases h
end
end Go.Sl
set_option linter.unusedSimpArgs false
set_option linter.unusedVariables false
namespace Go.Sl
open Go Go.RowKit
/-- the kinds of a region's operations, and what is not turned meanwhile -/
structure KF where
 kd:Oper→Kd
 keep:List zah
instance :CoeFun KF (fun _=>Oper→Kd):=⟨KF.kd⟩
def kfN :KF:=⟨fun _=>.write,[]⟩
def Kd.np :Kd→Bool
 | .pure=>false
 | .look=>false
 |_=>true
def Kd.al :Kd→Bool
 | .alloc=>true
 | .write=>true
 | .grow=>true
 |_=>false
def Kd.gr :Kd→Bool
 | .write=>true
 | .grow=>true
 |_=>false
def Kd.lk :Kd→Bool
 | .look=>true
 |_=>false
def Kd.wr :Kd→Bool
 | .write=>true
 |_=>false
theorem zg3 {k:Kd}(h:k.np=true):k≠ .pure∧k≠ .look:=by cases k<;>simp_all [Kd.np]
theorem zfm {k:Kd}(h:k.al=true):k=.alloc∨k=.write∨k=.grow:=by cases k<;>simp_all [Kd.al]
theorem zhn {k:Kd}(h:k.gr=true):k=.write∨k=.grow:=by cases k<;>simp_all [Kd.gr]
theorem zho {k:Kd}(h:k.lk=true):k=.look:=by cases k<;>simp_all [Kd.lk]
theorem ze2 {k:Kd}(h:k.wr=true):k=.write:=by cases k<;>simp_all [Kd.wr]
/-- the kinds: 'q' the functions that only read, 'al' those that only make -/
def kfDk (q al:List FuncId)(o:Oper):Kd:=
 match o.op with
 | .load .. =>.quiet
 | .box .. | .alloc .. | .buildSlice .. | .makeSlice .. =>.alloc
 | .store .. | .mapUpdate .. | .mapEntry .. | .entryStore .. | .insert .. | .makeMap .. | .lookup .. =>.write
 | .call {callee:=.value (.func f),.. }=>if q.contains f then .quiet else if al.contains f then .alloc else .write
 | .call {callee:=.builtin b,.. }=>(match b with
   | .len| .min| .max| .cap=>.pure
   |_=>.write)
 | .call _=>.write
 |_=>.pure
def kfD (q al:List FuncId):KF:=⟨kfDk q al,[]⟩
def zaX (kf:KF)(ops:Array Oper)(o:Oper):Item:=⟨kf.kd o,kf.keep,o,o.guard.map fun jb=>((ops[jb.1]?).bind (·.dst),jb.2)⟩
def zba (ops:Array Oper)(env:Env)(g:Option (Nat×Bool)):Option Bool:=
 match g with
 |none=>some true
 |some (j,b)=>match (ops.toList[j]?).bind (·.dst)with
  |none=>some false
  |some t=>match env.lookup t with
   |some (.bool x)=>some (x==b)
   |some _=>some false
   |none=>none
/-- the bool that a guard asks -/
def zg4 (ops:Array Oper)(env:Env)(g:Option (Nat×Bool)):Option Bool:=
 match g with
 |none=>none
 |some (j,_)=>match (ops.toList[j]?).bind (·.dst)with
  |none=>none
  |some t=>match env.lookup t with
   |some (.bool x)=>some x
   |_=>none
section
variable {P : Program} {W : World} {T : Tab} {N : Nat} {env : Env} {h h' : List zah} {kf : KF} {ops : Array Oper} {K : Env → List zah → Prop} {o : Oper} {rest : List Oper}
theorem zaZ {a:Act}{b:Bool}(ha:za3 N env a)(hg:zba ops env o.guard=some b):gOk (zaX kf ops o).g a.tmps=b:=by
 unfold zba at hg
 unfold zaX gOk
 cases hq:o.guard with
 |none=>simp[hq]at hg ⊢;exact hg
 |some jb=>
  obtain⟨j,c⟩:=jb
  simp only[hq,Option.map_some]at hg ⊢
  have e:(ops.toList[j]?).bind (·.dst)=(ops[j]?).bind (·.dst):=by simp
  rw[e]at hg
  split at hg
  ·rename_i h1
   injection hg with hg
   simp[h1,hg]
  ·rename_i t h1
   split at hg
   ·rename_i x h2
    injection hg with hg
    have:=ha.at_ t _ h2
    simp only[h1,Option.bind_some,this,hg]
   ·rename_i x hx h2
    injection hg with hg
    have:=ha.at_ t _ h2
    subst hg
    simp only[h1,Option.bind_some,this]
    cases x<;>first|rfl|(rename_i y;exact(hx y rfl).elim)
   ·cases hg
/-- a region's operations, walked in the order of a list -/
def ES (P:Program)(W:World)(N:Nat)(kf:KF)(ops:Array Oper)(l:List Oper)(env:Env)(h:List zah)(K:Env→List zah→Prop):Prop:=
 ∀a,za3 N env a→seqS P W (fun a' h'=>∃env',K env' h'∧za3 N env' a') (l.map (zaX kf ops)) a h
theorem zay (hK:K env h):ES P W N kf ops [] env h K:=fun _ ha=>⟨env,hK,ha⟩
theorem zel {it:Item}{a:Act}{v:Value}{K:Act→List zah→Prop}(hg:gOk it.g a.tmps=true)(hv:∀w,(execOp a.eval it.o).run P w=.ok (.value v) w)(hk:K (a.put it.o.dst v) h):opI P W it K a h:=by
 unfold opI
 simp only[hg,if_true]
 split
 ·exact⟨v,hv,hk⟩
 ·exact⟨v,fun h' _ w _=>by unfold Oper.quietAt;rw[hv];exact⟨rfl,rfl⟩,hk⟩
 ·exact fun w hw=>by unfold Oper.wp;rw[hv];exact⟨[],hw,hk⟩
 ·exact fun w hw=>by unfold Oper.wp;rw[hv];exact⟨h,hw,hk⟩
 ·exact⟨v,.inl hv,hk⟩
 ·exact fun w hw=>by unfold Oper.wp;rw[hv];exact⟨h,⟨hw,fun e=>e⟩,hk⟩
theorem zcw {it:Item}{a:Act}{v:Value}{K:Act→List zah→Prop}(hg:gOk it.g a.tmps=true)(hkd:it.kd≠ .pure∧it.kd≠ .look)
 (hv:∀h',(∀c∈h,c∈h')→∀w,Rep W h' w→it.o.quietAt P a (Rep W h') w v) (hk:K (a.put it.o.dst v) h):opI P W it K a h:=by
 have key:∀(K':Act→World→Prop),(∀w,Rep W h w→K' (a.put it.o.dst v) w)→∀w,Rep W h w→it.o.wp P a w K' (fun _ _ _=>False):=fun K' hK' w hw=>by
  have h3:=hv h (fun _ hc=>hc) w hw
  unfold Oper.quietAt at h3
  unfold Oper.wp
  generalize (execOp a.eval it.o).run P w=r at*
  cases r with
  |ok n w'=>
   cases n<;>simp only[Oper.quietUpon]at h3<;>simp only[Oper.upon]
   ·obtain⟨rfl,rfl⟩:=h3;exact hK' _ hw
   ·obtain⟨rfl,rfl⟩:=h3;exact hK' _ hw
   ·obtain⟨rfl,hc⟩:=h3
    exact hc.mono fun e w'' ⟨he,hw''⟩=>by subst he;exact hK' _ hw''
  |halt x w'=>simp only[Oper.quietUpon]at h3
 unfold opI
 simp only[hg,if_true]
 split
 ·rename_i hp;exact absurd hp hkd.1
 ·exact⟨v,hv,hk⟩
 ·exact key _ fun w hw=>⟨[],hw,hk⟩
 ·exact key _ fun w hw=>⟨h,hw,hk⟩
 ·rename_i hp;exact absurd hp hkd.2
 ·exact key _ fun w hw=>⟨h,⟨hw,fun e=>e⟩,hk⟩
theorem zem {it:Item}{a:Act}{v:Value}{K:Act→List zah→Prop}(hg:gOk it.g a.tmps=true)(hkd:it.kd=.look)(hkp:∀c∈it.keep,c∈h)
 (hv:∀h',(∀c∈it.keep,c∈h')→∀w,Rep W h' w→it.o.quietAt P a (Rep W h') w v) (hk:K (a.put it.o.dst v) h):opI P W it K a h:=by
 unfold opI
 simp only[hg,if_true,hkd]
 exact⟨v,.inr ⟨hkp,hv⟩,hk⟩
theorem zen {it:Item}{a:Act}{K:Act→List zah→Prop}(hg:gOk it.g a.tmps=true)(hkd:it.kd=.write∨it.kd=.grow)
 (hv:∀w,Rep W h w→it.o.wp P a w (fun a' w'=>∃h',(Rep W h' w'∧∀c∈it.keep,c∈h')∧K a' h') (fun _ _ _=>False)):opI P W it K a h:=by
 unfold opI
 simp only[hg,if_true]
 rcases hkd with hk|hk<;>simp only[hk]
 ·exact fun w hw=>za9 (fun a w' ⟨h',h3,h4⟩=>⟨h',h3.1,h4⟩) (fun _ _ _ h=>h) (hv w hw)
 ·exact fun w hw=>za9 (fun a w' ⟨h',h3,h4⟩=>⟨h',⟨h3.1,fun _=>h3.2⟩,h4⟩) (fun _ _ _ h=>h) (hv w hw)
theorem zbn {it:Item}{a:Act}{K:Act→List zah→Prop}(hg:gOk it.g a.tmps=true)(hkd:it.kd=.alloc∨it.kd=.write∨it.kd=.grow)
 (hv:∀w,Rep W h w→it.o.wp P a w (fun a' w'=>∃cs,Rep W (cs++h) w'∧K a' (cs++h)) (fun _ _ _=>False)):opI P W it K a h:=by
 unfold opI
 simp only[hg,if_true]
 rcases hkd with hk|hk|hk<;>simp only[hk]
 ·exact hv
 ·exact fun w hw=>za9 (fun a w' ⟨cs,h3,h4⟩=>⟨cs++h,h3,h4⟩) (fun _ _ _ h=>h) (hv w hw)
 ·exact fun w hw=>za9 (fun a w' ⟨cs,h3,h4⟩=>⟨cs++h,⟨h3,fun e c hc=>List.mem_append_right _ (e c hc)⟩,h4⟩) (fun _ _ _ h=>h) (hv w hw)
theorem zbg {it:Item}{a:Act}{K:Act→List zah→Prop}(hg:gOk it.g a.tmps=true)(hkd:it.kd=.write)
 (hv:∀w,Rep W h w→it.o.wp P a w (fun a' w'=>∃h',Rep W h' w'∧K a' h') (fun _ _ _=>False)):opI P W it K a h:=by
 unfold opI
 simp only[hg,if_true,hkd]
 exact hv
/-- the guard says no -/
theorem zak {b:Bool}{d:Tmp}{op ty pos af g}(hg:zba ops env g=some b)(hb:b=false)(hd:Nat.blt d N=true)(hK:ES P W N kf ops rest ((d,undef)::env) h K):ES P W N kf ops (⟨some d,op,ty,pos,af,g⟩::rest) env h K:=fun a ha=>by
 subst hb
 show opI P W (zaX kf ops ⟨some d,op,ty,pos,af,g⟩) _ a h
 unfold opI
 rw[zaZ (kf:=kf) (o:=⟨some d,op,ty,pos,af,g⟩) ha hg]
 exact hK _ (ha.put (d:=some d) hd)
theorem zad {b:Bool}{op ty pos af g}(hg:zba ops env g=some b)(hb:b=false)(hK:ES P W N kf ops rest env h K):ES P W N kf ops (⟨none,op,ty,pos,af,g⟩::rest) env h K:=fun a ha=>by
 subst hb
 show opI P W (zaX kf ops ⟨none,op,ty,pos,af,g⟩) _ a h
 unfold opI
 rw[zaZ (kf:=kf) (o:=⟨none,op,ty,pos,af,g⟩) ha hg]
 exact hK _ ha
/-- the guard is not yet decided -/
theorem zal {dst op ty pos af g}{x:Bool}(_hg:zg4 ops env g=some x)(h1:x=true→ES P W N kf ops (⟨dst,op,ty,pos,af,g⟩::rest) env h K)(h0:x=false→ES P W N kf ops (⟨dst,op,ty,pos,af,g⟩::rest) env h K):ES P W N kf ops (⟨dst,op,ty,pos,af,g⟩::rest) env h K:=by
 cases x
 ·exact h0 rfl
 ·exact h1 rfl
theorem zbO {b:Bool}{v:Value}{d:Tmp}{op ty pos af g}(hg:zba ops env g=some b)(hb:b=true)(hd:Nat.blt d N=true)
 (hv:∀a,za3 N env a→∀w,(execOp a.eval ⟨some d,op,ty,pos,af,g⟩).run P w=.ok (.value v) w)
 (hK:ES P W N kf ops rest ((d,v)::env) h K):ES P W N kf ops (⟨some d,op,ty,pos,af,g⟩::rest) env h K:=fun a ha=>by
 subst hb
 exact zel (it:=zaX kf ops ⟨some d,op,ty,pos,af,g⟩) (zaZ ha hg) (hv a ha) (hK _ (ha.put (d:=some d) hd))
theorem zaj (hT:zbc P T){b:Bool}{v:Value}{d:Tmp}{op ty pos af g}(hg:zba ops env g=some b)(hb:b=true)(hd:Nat.blt d N=true)(hv:zcD T env op=some v)
 (hK:ES P W N kf ops rest ((d,v)::env) h K):ES P W N kf ops (⟨some d,op,ty,pos,af,g⟩::rest) env h K:=
 zbO hg hb hd (fun _ ha w=>zdQ hT ha hv w) hK
theorem zax (hT:zbc P T){b:Bool}{e:Int}{d:Tmp}{op ty pos af g}(hg:zba ops env g=some b)(hb:b=true)(hd:Nat.blt d N=true)(hv:zbN T env op=some (.i64,e))
 (h1: -9223372036854775808≤e) (h2:e≤9223372036854775807)
 (hK:ES P W N kf ops rest ((d,.int .i64 e)::env) h K):ES P W N kf ops (⟨some d,op,ty,pos,af,g⟩::rest) env h K:=
 zbO hg hb hd (fun _ ha w=>by rw[zbH hT ha hv w,IntWalk.i64_in e ⟨h1,h2⟩]) hK
/-! ### pick, with its bool known beside -/
/-! ### loads -/
def Ld (P:Program)(W:World)(h:List zah)(t:TypeId)(ad:Addr)(v:Value):Prop:=∀w,RepS W h w→(Instr.loadAt t (.pointer (some ad))).run P w=.ok v w
theorem zab {b:Bool}{d:Tmp}{ty pos af g}{t:TypeId}{x:Operand}{ad:Addr}{v:Value}(hg:zba ops env g=some b)(hb:b=true)(hd:Nat.blt d N=true)(hk:(kf ⟨some d,.load t x,ty,pos,af,g⟩).np=true)
 (hx:zaR env x=some (.pointer (some ad))) (hl:Ld P W h t ad v)
 (hK:ES P W N kf ops rest ((d,v)::env) h K):ES P W N kf ops (⟨some d,.load t x,ty,pos,af,g⟩::rest) env h K:=fun a ha=>by
 subst hb
 refine zcw (it:=zaX kf ops ⟨some d,.load t x,ty,pos,af,g⟩) (v:=v) (zaZ ha hg) (zg3 hk) (fun h' hs w hw=> ?_) (hK _ (ha.put (d:=some d) hd))
 have:=hl w (hw.weak hs)
 unfold Oper.quietAt
 simp only[zaX,execOp,ha.eval hx,Sem.run_bind,this,Result.andThen_ok,Sem.run_pure]
 exact⟨rfl,rfl⟩
/-- a load of what was there at the region's start -/
theorem zf3 {b:Bool}{d:Tmp}{ty pos af g}{t:TypeId}{x:Operand}{ad:Addr}{v:Value}(hg:zba ops env g=some b)(hb:b=true)(hd:Nat.blt d N=true)(hk:(kf ⟨some d,.load t x,ty,pos,af,g⟩).lk=true)
 (hx:zaR env x=some (.pointer (some ad))) (hkp:∀c∈kf.keep,c∈h) (hl:Ld P W kf.keep t ad v)
 (hK:ES P W N kf ops rest ((d,v)::env) h K):ES P W N kf ops (⟨some d,.load t x,ty,pos,af,g⟩::rest) env h K:=fun a ha=>by
 subst hb
 refine zem (it:=zaX kf ops ⟨some d,.load t x,ty,pos,af,g⟩) (v:=v) (zaZ ha hg) (zho hk) hkp (fun h' hs w hw=> ?_) (hK _ (ha.put (d:=some d) hd))
 have:=hl w (hw.weak hs)
 unfold Oper.quietAt
 simp only[zaX,execOp,ha.eval hx,Sem.run_bind,this,Result.andThen_ok,Sem.run_pure]
 exact⟨rfl,rfl⟩
theorem zb3 (hT:zbc P T){t:TypeId}{ti:TI}(ht:T.lookup t=some ti)(hag:zb2 ti.desc=true){ad:Addr}{w:World}{cs:List Value}(hl:cs.length=ti.size)
 (hc:∀j v,cs[j]? =some v→w.cell? (ad.add j)=some v):(Instr.loadAt t (.pointer (some ad))).run P w=.ok (.agg cs.toArray) w:=by
 have g:=hT _ _ ht
 have:=run_loadCells_list (P:=P) w ad cs hc
 simp only[Instr.loadAt,Instr.sureAddr,loadVar,Sem.run_bind,Sem.run_pure,Result.andThen_ok,g.ag,hag,if_true,g.sz,←hl,this]
theorem zb4 (hT:zbc P T){t:TypeId}{ti:TI}(ht:T.lookup t=some ti)(hag:zb2 ti.desc=false){ad:Addr}{w:World}{v:Value}
 (hc:w.cell? ad=some v):(Instr.loadAt t (.pointer (some ad))).run P w=.ok v w:=by
 have g:=hT _ _ ht
 simp[Instr.loadAt,Instr.sureAddr,loadVar,g.ag,hag,hc]
theorem zdy (g off n:Nat):(⟨g,off,none⟩:Addr).add n=⟨g,off+n,none⟩:=by unfold Addr.add;split<;>simp_all
theorem zcs (A:Option Addr)(o f:Nat):(adr A o).add f=adr A (o+f):=by
 unfold adr Addr.add
 by_cases h1:o=0<;>by_cases h2:f=0<;>simp[h1,h2,Nat.add_assoc]
theorem zat (hT:zbc P T){t:TypeId}{ti:TI}{ad:Addr}{tt:TypeId}{cs:List Value}{v:Value}(ht:T.lookup t=some ti)(hag:zb2 ti.desc=false)
 (hm:zah.blk ad.block tt cs∈h) (hs:ad.spot=none) (hv:cs[ad.off]? =some v):Ld P W h t ad v:=fun w hw=>
 zb4 hT ht hag (by have:=hw.cell_blk hm ad.off;obtain⟨b,off,s⟩:=ad;simp only at hs;subst hs;rw[this,hv])
/-- the whole block -/
theorem zar (hT:zbc P T){t:TypeId}{ti:TI}{g:Nat}{tt:TypeId}{cs:List Value}(ht:T.lookup t=some ti)(hag:zb2 ti.desc=true)
 (hm:zah.blk g tt cs∈h) (hl:cs.length=ti.size):Ld P W h t ⟨g,0,none⟩ (.agg cs.toArray):=fun w hw=>
 zb3 hT ht hag hl (fun j v hj=>by rw[zdy,hw.cell_blk hm,Nat.zero_add];exact hj)
theorem zaY (hT:zbc P T){t:TypeId}{ti:TI}{ad:Addr}{A:Option Addr}{n k o:Nat}{cs:List Value}{v:Value}(ht:T.lookup t=some ti)(hag:zb2 ti.desc=false)
 (hr:zaE W h A n k cs) (had:ad=adr A o) (hv:cs[o]? =some v):Ld P W h t ad v:=fun w hw=>
 zb4 hT ht hag (by rw[had];exact(hr.2.2 w hw o v hv).2)
theorem zgJ (hT:zbc P T){t:TypeId}{ti:TI}{ad:Addr}{A:Option Addr}{n k o:Nat}{cs vs:List Value}(ht:T.lookup t=some ti)(hag:zb2 ti.desc=true)
 (hr:zaE W h A n k cs) (had:ad=adr A o) (hl:vs.length=ti.size) (hv:∀j v,vs[j]? =some v→cs[o+j]? =some v):Ld P W h t ad (.agg vs.toArray):=fun w hw=>
 zb3 hT ht hag hl (fun j v hj=>by rw[had,zcs];exact(hr.2.2 w hw _ v (hv j v hj)).2)
/-! ### cells of a row of things of one shape -/
theorem zbW {α:Type}{enc:α→List Value}{k:Nat}(hk:∀x,(enc x).length=k):∀l:List α,(l.flatMap enc).length=l.length*k
 |[]=>by simp
 |x::l=>by simp[zbW hk l,hk,Nat.add_mul,Nat.add_comm]
theorem zdz {α:Type}{enc:α→List Value}{k:Nat}(hk:∀x,(enc x).length=k):∀(l:List α) (i f:Nat) (x:α),l[i]? =some x→f<k→(l.flatMap enc)[i*k+f]? =(enc x)[f]?
 |[],i,f,x,h,_=>by simp at h
 |y::l,0,f,x,h,hf=>by
  simp at h;subst h
  simp only[List.flatMap_cons,Nat.zero_mul,Nat.zero_add]
  rw[List.getElem?_append_left (by rw[hk];exact hf)]
 |y::l,i+1,f,x,h,hf=>by
  simp only[List.flatMap_cons]
  rw[List.getElem?_append_right (by rw[hk,Nat.add_mul];omega)]
  rw[show(i+1)*k+f - (enc y).length=i*k+f from by rw[hk,Nat.add_mul];omega]
  exact zdz hk l i f x (by simpa using h) hf
theorem zeH (hT:zbc P T){α:Type}{enc:α→List Value}{t:TypeId}{ti:TI}{ad:Addr}{A:Option Addr}{n k i f:Nat}{l:List α}{x:α}{v:Value}(ht:T.lookup t=some ti)(hag:zb2 ti.desc=false)
 (hr:zaE W h A n k (l.flatMap enc)) (hk:∀x,(enc x).length=k) (had:ad=adr A (i*k+f)) (hx:l[i]? =some x) (hf:f<k) (hv:(enc x)[f]? =some v):Ld P W h t ad v:=
 zaY hT ht hag hr had (by rw[zdz hk l i f x hx hf];exact hv)
theorem zbd (hT:zbc P T){α:Type}{enc:α→List Value}{t:TypeId}{ti:TI}{ad:Addr}{A:Option Addr}{n k i:Nat}{l:List α}{x:α}(ht:T.lookup t=some ti)(hag:zb2 ti.desc=true)
 (hr:zaE W h A n k (l.flatMap enc)) (hk:∀x,(enc x).length=k) (had:ad=adr A (i*k)) (hx:l[i]? =some x) (hs:ti.size=k):Ld P W h t ad (.agg (enc x).toArray):=
 zgJ hT ht hag hr had (by rw[hk,hs]) (fun j v hj=>by
  have hlt:j<k:=by rw[←hk x];exact(gsi.1 hj).1
  rw[zdz hk l i j x hx hlt];exact hj)
/-! ### new blocks -/
theorem zav {b:Bool}{d:Tmp}{ty pos af g}{t:TypeId}{x:Operand}{v:Value}(hg:zba ops env g=some b)(hb:b=true)(hd:Nat.blt d N=true)(hk:(kf ⟨some d,.box t x,ty,pos,af,g⟩).al=true)
 (hx:zaR env x=some v)
 (hK:∀g',ES P W N kf ops rest ((d,(.pointer (some ⟨g',0,none⟩)))::env) (.blk g' t v.cells.toList::h) K):ES P W N kf ops (⟨some d,.box t x,ty,pos,af,g⟩::rest) env h K:=fun a ha=>by
 subst hb
 refine zbn (it:=zaX kf ops ⟨some d,.box t x,ty,pos,af,g⟩) (zaZ ha hg) (zfm hk) (fun w hw=> ?_)
 have e:(execOp a.eval ⟨some d,.box t x,ty,pos,af,g⟩).run P w=.ok (.value (.pointer (some ⟨w.heap.size,0,none⟩))) (w.alloc (.cells v.cells t)):=by
  simp[execOp,ha.eval hx,Instr.box,newVar,newRow]
 unfold Oper.wp
 show Oper.upon P _ a _ _ ((execOp a.eval ⟨some d,.box t x,ty,pos,af,g⟩).run P w)
 rw[e]
 refine⟨[.blk w.heap.size t v.cells.toList],?_,hK w.heap.size _ (ha.put (d:=some d) hd)⟩
 have:=hw.alloc_blk t v.cells.toList
 simpa using this
theorem zac (hT:zbc P T){b:Bool}{d:Tmp}{ty pos af g}{t:TypeId}{ti:TI}(hg:zba ops env g=some b)(hb:b=true)(hd:Nat.blt d N=true)(hk:(kf ⟨some d,.alloc t,ty,pos,af,g⟩).al=true)
 (ht:T.lookup t=some ti)
 (hK:∀g',ES P W N kf ops rest ((d,(.pointer (some ⟨g',0,none⟩)))::env) (.blk g' t ti.zero.cells.toList::h) K):ES P W N kf ops (⟨some d,.alloc t,ty,pos,af,g⟩::rest) env h K:=fun a ha=>by
 subst hb
 refine zbn (it:=zaX kf ops ⟨some d,.alloc t,ty,pos,af,g⟩) (zaZ ha hg) (zfm hk) (fun w hw=> ?_)
 have gd:=hT _ _ ht
 have e:(execOp a.eval ⟨some d,.alloc t,ty,pos,af,g⟩).run P w=.ok (.value (.pointer (some ⟨w.heap.size,0,none⟩))) (w.alloc (.cells ti.zero.cells t)):=by
  simp[execOp,Instr.alloc,newVar,newRow,gd.zv]
 unfold Oper.wp
 show Oper.upon P _ a _ _ ((execOp a.eval ⟨some d,.alloc t,ty,pos,af,g⟩).run P w)
 rw[e]
 refine⟨[.blk w.heap.size t ti.zero.cells.toList],?_,hK w.heap.size _ (ha.put (d:=some d) hd)⟩
 have:=hw.alloc_blk t ti.zero.cells.toList
 simpa using this
/-! ### stores -/
theorem Rep.setRow_blk {w:World}{g:Nat}{t:TypeId}{cs cs':List Value}(hr:Rep W (.blk g t cs::h) w):Rep W (.blk g t cs'::h) (w.setRow g cs'.toArray):=by
 have hg:=(hr.holds (.blk g t cs) (by simp))
 refine hr.change (row:=some g) ⟨rfl,rfl,rfl,by simp,fun k _ hk=>setRow_other w g k _ (fun e=>hk (by rw[e]))⟩ (fun g' e=>by simp[zah.keys];exact(Option.some.inj e).symm) ⟨hg.1,setRow_heap w g _ _ t _ hg.2⟩ (fun g' hg'=>.inl hg')
theorem Rep.setRow_own {w:World}{g n c k:Nat}{t:TypeId}{cs:List Value}{cur:Array Value}(hr:Rep W (.own (some ⟨g,0,none⟩) n c t k cs::h) w)
 (hcur:w.heap[g]? =some (.cells cur t (0,0))){n':Nat}{new:List Value}{cs':List Value}(hl:new.length=cur.size)(ht:new.take (n'*k)=cs')(hcs:cs'.length=n'*k)(hn:n'≤c)(h1:∀v∈cs',v.oneCell'=true):
 Rep W (.own (some ⟨g,0,none⟩) n' c t k cs'::h) (w.setRow g new.toArray):=by
 have hg:=(hr.holds (.own (some ⟨g,0,none⟩) n c t k cs) (by simp))
 refine hr.change (row:=some g) ⟨rfl,rfl,rfl,by simp,fun k _ hk=>setRow_other w g k _ (fun e=>hk (by rw[e]))⟩ (fun g' e=>by simp[zah.keys];exact(Option.some.inj e).symm) ?_ (fun g' hg'=>.inl (by simpa [zah.keys]using hg'))
 obtain⟨ho,hone⟩:=hg
 rcases ho.2 with ⟨hv,_⟩|⟨g',cap,cur',hv,hb,hg',hnc,hcm,hsz,_⟩
 ·cases hv
 ·injection hv with hA _ hc
  injection hA with hA
  injection hA with hA _ _
  subst hA hc
  rw[hg']at hcur
  injection hcur with hcur
  injection hcur with hcur _ _
  subst hcur
  exact⟨⟨hcs,.inr ⟨g,c,new.toArray,rfl,hb,setRow_heap w g _ _ t _ hg',hn,hcm,by simp[hl,hsz],by simpa using ht⟩⟩,h1⟩
theorem zcb (hT:zbc P T){t:TypeId}{ti:TI}(ht:T.lookup t=some ti){g off:Nat}{w:World}{v:Value}{tt:TypeId}{cur:Array Value}(hsz:v.cells.size=ti.size)(h1:v.cells.toList.all Value.oneCell'=true)
 (hcur:w.heap[g]? =some (.cells cur tt (0,0)))(hl:off+ti.size≤cur.size):
 (Instr.storeAt t (.pointer (some ⟨g,off,none⟩)) v).run P w=.ok () (w.setRow g (cur.toList.take off++v.cells.toList++cur.toList.drop (off+ti.size)).toArray):=by
 have gd:=hT _ _ ht
 have hst:=run_storeCells_at P g off tt v.cells.toList 0 cur w hcur (by simpa [hsz]using hl) (fun u hu=>List.all_eq_true.1 h1 u hu)
 simp only[Nat.add_zero]at hst
 simp only[Instr.storeAt,Instr.sureAddr,storeVar,Sem.run_bind,Sem.run_pure,Result.andThen_ok,gd.sz,hsz,ne_eq,not_true_eq_false,if_false]
 rw[hst]
 simp[hsz]
/-- cells 'vs' laid at 'off' -/
def lay (cs:List Value)(off:Nat)(vs:List Value):List Value:=cs.take off++vs++cs.drop (off+vs.length)
theorem zaQ (hT:zbc P T){b:Bool}{ty pos af g}{t:TypeId}{ti:TI}{x y:Operand}{ad:Addr}{v:Value}{tt:TypeId}{cs:List Value}(hg:zba ops env g=some b)(hb:b=true)
 (hk:(kf ⟨none,.store t x y,ty,pos,af,g⟩).wr=true) (hx:zaR env x=some (.pointer (some ad))) (hy:zaR env y=some v) (ht:T.lookup t=some ti)
 (hp:h.Perm (.blk ad.block tt cs::h')) (hs:ad.spot=none) (hsz:v.cells.size=ti.size) (h1:v.cells.toList.all Value.oneCell'=true) (hl:ad.off+ti.size≤cs.length)
 (hK:ES P W N kf ops rest env (.blk ad.block tt (lay cs ad.off v.cells.toList)::h') K):ES P W N kf ops (⟨none,.store t x y,ty,pos,af,g⟩::rest) env h K:=fun a ha=>by
 subst hb
 refine zbg (it:=zaX kf ops ⟨none,.store t x y,ty,pos,af,g⟩) (zaZ ha hg) (ze2 hk) (fun w hw=> ?_)
 obtain⟨gb,off,s⟩:=ad
 simp only at hs hl hp hK
 subst hs
 have hw':=hw.perm hp
 have hh:=hw'.heap_blk (g:=gb) (t:=tt) (cs:=cs) (by simp)
 have:=zcb hT ht (g:=gb) (off:=off) hsz h1 hh (by simpa using hl)
 unfold Oper.wp
 simp only[zaX,execOp,ha.eval hx,ha.eval hy,Sem.run_bind,this,Result.andThen_ok,Sem.run_pure,Oper.upon_skip]
 refine⟨_,?_,hK _ ha⟩
 have e:lay cs off v.cells.toList=(cs.toArray.toList.take off++v.cells.toList++cs.toArray.toList.drop (off+ti.size)):=by simp[lay,hsz]
 rw[←e]
 exact hw'.setRow_blk
/-- a store into a row of the call's own -/
theorem zbs (hT:zbc P T){b:Bool}{ty pos af g}{t:TypeId}{ti:TI}{x y:Operand}{ad:Addr}{A:Option Addr}{n c k o:Nat}{v:Value}{tt:TypeId}{cs:List Value}(hg:zba ops env g=some b)(hb:b=true)
 (hk:(kf ⟨none,.store t x y,ty,pos,af,g⟩).wr=true) (hx:zaR env x=some (.pointer (some ad))) (hy:zaR env y=some v) (ht:T.lookup t=some ti)
 (hp:h.Perm (.own A n c tt k cs::h')) (had:ad=adr A o) (hsz:v.cells.size=ti.size) (h1:v.cells.toList.all Value.oneCell'=true) (hl:o+ti.size≤n*k) (h0:0<n)
 (hK:ES P W N kf ops rest env (.own A n c tt k (lay cs o v.cells.toList)::h') K):ES P W N kf ops (⟨none,.store t x y,ty,pos,af,g⟩::rest) env h K:=fun a ha=>by
 subst hb
 refine zbg (it:=zaX kf ops ⟨none,.store t x y,ty,pos,af,g⟩) (zaZ ha hg) (ze2 hk) (fun w hw=> ?_)
 have hw':=hw.perm hp
 have ho:=hw'.holds (.own A n c tt k cs) (by simp)
 rcases ho.1.2 with ⟨_,hn⟩|⟨gb,cap,cur,hv,hbb,hgb,hnc,hcm,hcs,htk⟩
 ·omega
 ·injection hv with hA _ hc
  subst hA hc
  have had':ad=⟨gb,o,none⟩:=by rw[had];simp[adr,zdy]
  subst had'
  have hle:n*k≤cur.size:=by rw[hcs];exact Nat.mul_le_mul_right k hnc
  have:=zcb hT ht (g:=gb) (off:=o) hsz h1 hgb (by omega)
  unfold Oper.wp
  simp only[zaX,execOp,ha.eval hx,ha.eval hy,Sem.run_bind,this,Result.andThen_ok,Sem.run_pure,Oper.upon_skip]
  refine⟨_,?_,hK _ ha⟩
  have hlen:=ho.1.1
  have hvl:v.cells.toList.length=ti.size:=by simpa using hsz
  have hcl:(cur.toList.take (n*k)).length=n*k:=by simp;omega
  refine hw'.setRow_own hgb (n':=n) ?_ ?_ ?_ hnc ?_
  ·simp only[lla,llt,List.length_drop,Array.length_toList,hvl];omega
  ·rw[←htk,lay,hvl]
   rw[List.take_take,List.take_append,List.take_append,lla,llt,Array.length_toList,hvl]
   rw[List.take_of_length_le (l:=List.take o cur.toList) (by simp;omega),List.take_of_length_le (l:=v.cells.toList) (by rw[hvl];omega)]
   rw[Nat.min_eq_left (by omega:o≤cur.size),Nat.min_eq_left (by omega:o≤n*k)]
   congr 1
   rw[List.drop_take]
  ·simp only[lay,lla,llt,List.length_drop,hvl,hlen];omega
  ·intro u hu
   simp only[lay,lma]at hu
   rcases hu with (hu|hu)|hu
   ·exact ho.2 u (List.mem_of_mem_take hu)
   ·exact List.all_eq_true.1 h1 u hu
   ·exact ho.2 u (List.mem_of_mem_drop hu)
theorem mem0 {c:zah}{F:List zah}:c∈c::F:=List.mem_cons_self
theorem mem1 {a c:zah}{F:List zah}:c∈a::c::F:=List.mem_cons_of_mem _ mem0
theorem mem2 {a b c:zah}{F:List zah}:c∈a::b::c::F:=List.mem_cons_of_mem _ mem1
theorem mem3 {a b d c:zah}{F:List zah}:c∈a::b::d::c::F:=List.mem_cons_of_mem _ mem2
theorem mem4 {a b d e c:zah}{F:List zah}:c∈a::b::d::e::c::F:=List.mem_cons_of_mem _ mem3
theorem sel0 {c:zah}{F:List zah}:(c::F).Perm (c::F):=plr _
theorem sel1 {a c:zah}{F:List zah}:(a::c::F).Perm (c::a::F):=List.Perm.swap _ _ _
theorem selS {a c:zah}{F G:List zah}(hp:F.Perm (c::G)):(a::F).Perm (c::a::G):=(hp.cons a).trans (List.Perm.swap _ _ _)
/-! ### an element's address -/
theorem za4 (hT:zbc P T){b:Bool}{d:Tmp}{ty pos af g}{t e:TypeId}{ti te:TI}{x ix:Operand}{A:Option Addr}{n c:Nat}{i:Int}{k:IntKind}(hg:zba ops env g=some b)(hb:b=true)(hd:Nat.blt d N=true)
 (ht:T.lookup t=some ti) (htd:ti.desc=.slice e) (hte:T.lookup e=some te) (hx:zaR env x=some (.slice A n c)) (hi:zaR env ix=some (.int k i)) (h0:0≤i) (h1:i<n) (hA:A.isSome=true)
 (hK:ES P W N kf ops rest ((d,.pointer (some (adr A (i.toNat*te.size))))::env) h K):ES P W N kf ops (⟨some d,.indexAddr t x ix,ty,pos,af,g⟩::rest) env h K:=
 zbO hg hb hd (fun a ha w=>by
  have g1:=hT _ _ ht
  have g2:=hT _ _ hte
  have hu:=g1.1
  rw[htd]at hu
  cases A with
  |none=>simp at hA
  |some ad=>simp[execOp,ha.eval hx,ha.eval hi,Instr.indexAt,asIntOf,run_underlying hu,h0,h1,g2.sz,adr]) hK
end
end Go.Sl
set_option linter.unusedSimpArgs false
set_option linter.unusedVariables false
namespace Go.Sl
open Go Go.RowKit
/-- the function is there, with a body -/
def zfn (P : Program) (f : FuncId) : Prop := ∃ fn, P.funcs[f]? = some fn ∧ (fn.name == "runtime.NumGoroutine") = false ∧ fn.body.isNone = false
/-- a contract -/
def zaI (P:Program)(W:World)(f:FuncId)(args:List Value)(h:List zah)(R:Value→List zah→Prop):Prop:=
 zfn P f∧∀w,Rep W h w→Calls P f args.toArray w fun e w'=>∃v h',e=.returned v∧R v h'∧Rep W h' w'
/-- a contract of a function that changes nothing that is known -/
def zaC (P:Program)(W:World)(f:FuncId)(args:List Value)(h:List zah)(v:Value):Prop:=
 zfn P f∧∀h',(∀c∈h,c∈h')→∀w,Rep W h' w→Calls P f args.toArray w fun e w'=>e=.returned v∧Rep W h' w'
section
variable {P : Program} {W : World} {T : Tab} {N : Nat} {env env' : Env} {h h' h2 : List zah} {kf : KF} {ops : Array Oper} {K : Env → List zah → Prop} {o : Oper} {rest : List Oper} {Q : Exit → Env → List zah → Prop}
variable {f : FuncId} {args : List Value} {R R' : Value → List zah → Prop}
theorem zaI.mono (hs:zaI P W f args h R)(hr:∀v h',R v h'→R' v h'):zaI P W f args h R':=
 ⟨hs.1,fun w hw=>(hs.2 w hw).mono fun _ _ ⟨v,h',e,r,rp⟩=>⟨v,h',e,hr _ _ r,rp⟩⟩
theorem zaI.perm (hs:zaI P W f args h R)(hp:h'.Perm h):zaI P W f args h' R:=⟨hs.1,fun w hw=>hs.2 w (hw.perm hp)⟩
/-- what is left over may be thrown away -/
theorem zaI.drop (hs:zaI P W f args h fun v h'=>∃J k,h'.Perm (J++k)∧R v k):zaI P W f args h R:=
 ⟨hs.1,fun w hw=>(hs.2 w hw).mono fun _ _ ⟨v,_,e,⟨_,k,hp,r⟩,rp⟩=>⟨v,k,e,r,(rp.perm hp).drop⟩⟩
theorem zaC.of {v:Value}(hs:∀h',(∀c∈h,c∈h')→zaI P W f args h' fun u k=>u=v∧∃J,k.Perm (J++h')):zaC P W f args h v:=
 ⟨(hs h (fun _ hc=>hc)).1,fun h' hsub w hw=>((hs h' hsub).2 w hw).mono fun _ _ ⟨u,_,e,⟨hu,_,hp⟩,rp⟩=>⟨by rw[e,hu],(rp.perm hp).drop⟩⟩
theorem zaC.mono {v:Value}(hs:zaC P W f args h v)(hsub:∀c∈h,c∈h'):zaC P W f args h' v:=⟨hs.1,fun h2 hs2 w hw=>hs.2 h2 (fun c hc=>hs2 c (hsub c hc)) w hw⟩
theorem zaC.cast {v u:Value}(hs:zaC P W f args h v)(e:v=u):zaC P W f args h u:=e▸hs
theorem zbX (hf:zfn P f){x:Operand}{as':Array Operand}{ats:Array TypeId}{a:Act}{first captured:Array Value}{vs:List Value}(ha:za3 N env a)(hx:zaR env x=some (.func (.func f) first captured))(hv:zbM env as'.toList=some vs)
 {dst ty pos af g} (w:World):
 (execOp a.eval ⟨dst,.call {callee:=.value x,args:=as',argTypes:=ats},ty,pos,af,g⟩).run P w=.ok (.enter f (first.toList++vs++captured.toList).toArray) w:=by
 obtain⟨fn,h1,h2,h3⟩:=hf
 have hvs:=ha.evals hv
 have e3:Array.map a.eval as'=vs.toArray:=by apply Array.ext';simp[←hvs]
 simp only[execOp,resolve,ha.eval hx,Deferred.ofValue,Sem.run_bind,Sem.run_pure,Result.andThen_ok,invoke,callFunc,run_program,h1,h2,h3,e3]
 simp only[Bool.false_eq_true,if_false,Sem.run_pure]
 congr 2
 apply Array.ext'
 simp
theorem zaN {b:Bool}{d:Tmp}{ty pos af g}{x:Operand}{as':Array Operand}{ats:Array TypeId}{first captured:Array Value}{vs:List Value}(hg:zba ops env g=some b)(hb:b=true)(hd:Nat.blt d N=true)
 (hk:(kf ⟨some d,.call {callee:=.value x,args:=as',argTypes:=ats},ty,pos,af,g⟩).wr=true)
 (hx:zaR env x=some (.func (.func f) first captured)) (hv:zbM env as'.toList=some vs) (hargs:first.toList++vs++captured.toList=args) (hs:zaI P W f args h R)
 (hK:∀v h',R v h'→ES P W N kf ops rest ((d,v)::env) h' K):ES P W N kf ops (⟨some d,.call {callee:=.value x,args:=as',argTypes:=ats},ty,pos,af,g⟩::rest) env h K:=fun a ha=>by
 subst hb hargs
 refine zbg (it:=zaX kf ops ⟨some d,.call {callee:=.value x,args:=as',argTypes:=ats},ty,pos,af,g⟩) (zaZ ha hg) (ze2 hk) (fun w hw=> ?_)
 unfold Oper.wp
 show Oper.upon P _ a _ _ ((execOp a.eval ⟨some d,.call {callee:=.value x,args:=as',argTypes:=ats},ty,pos,af,g⟩).run P w)
 rw[zbX hs.1 ha hx hv]
 rw[Oper.upon_enter]
 refine(hs.2 w hw).mono fun e w' ⟨v,h',he,hr,hrep⟩=> ?_
 subst he
 exact⟨h',hrep,hK v h' hr _ (ha.put (d:=some d) hd)⟩
theorem zbY {b:Bool}{d:Tmp}{ty pos af g}{x:Operand}{as':Array Operand}{ats:Array TypeId}{first captured:Array Value}{vs:List Value}(hg:zba ops env g=some b)(hb:b=true)(hd:Nat.blt d N=true)
 (hk:(kf ⟨some d,.call {callee:=.value x,args:=as',argTypes:=ats},ty,pos,af,g⟩).al=true)
 (hx:zaR env x=some (.func (.func f) first captured)) (hv:zbM env as'.toList=some vs) (hargs:first.toList++vs++captured.toList=args) (hs:zaI P W f args h R)
 (hK:∀v h',R v h'→∃cs,h'=cs++h∧ES P W N kf ops rest ((d,v)::env) h' K):ES P W N kf ops (⟨some d,.call {callee:=.value x,args:=as',argTypes:=ats},ty,pos,af,g⟩::rest) env h K:=fun a ha=>by
 subst hb hargs
 refine zbn (it:=zaX kf ops ⟨some d,.call {callee:=.value x,args:=as',argTypes:=ats},ty,pos,af,g⟩) (zaZ ha hg) (zfm hk) (fun w hw=> ?_)
 unfold Oper.wp
 show Oper.upon P _ a _ _ ((execOp a.eval ⟨some d,.call {callee:=.value x,args:=as',argTypes:=ats},ty,pos,af,g⟩).run P w)
 rw[zbX hs.1 ha hx hv]
 rw[Oper.upon_enter]
 refine(hs.2 w hw).mono fun e w' ⟨v,h',he,hr,hrep⟩=> ?_
 subst he
 obtain⟨cs,hcs,hk⟩:=hK v h' hr
 subst hcs
 exact⟨cs,hrep,hk _ (ha.put (d:=some d) hd)⟩
theorem zaw {b:Bool}{d:Tmp}{ty pos af g}{x:Operand}{as':Array Operand}{ats:Array TypeId}{first captured:Array Value}{vs:List Value}{v:Value}(hg:zba ops env g=some b)(hb:b=true)(hd:Nat.blt d N=true)
 (hk:(kf ⟨some d,.call {callee:=.value x,args:=as',argTypes:=ats},ty,pos,af,g⟩).np=true)
 (hx:zaR env x=some (.func (.func f) first captured)) (hv:zbM env as'.toList=some vs) (hargs:first.toList++vs++captured.toList=args) (hs:zaC P W f args h v)
 (hK:ES P W N kf ops rest ((d,v)::env) h K):ES P W N kf ops (⟨some d,.call {callee:=.value x,args:=as',argTypes:=ats},ty,pos,af,g⟩::rest) env h K:=fun a ha=>by
 subst hb hargs
 refine zcw (it:=zaX kf ops ⟨some d,.call {callee:=.value x,args:=as',argTypes:=ats},ty,pos,af,g⟩) (v:=v) (zaZ ha hg) (zg3 hk) (fun h' hsub w hw=> ?_) (hK _ (ha.put (d:=some d) hd))
 unfold Oper.quietAt
 show Oper.quietUpon P _ w v ((execOp a.eval ⟨some d,.call {callee:=.value x,args:=as',argTypes:=ats},ty,pos,af,g⟩).run P w)
 rw[zbX hs.1 ha hx hv]
 exact⟨rfl,hs.2 h' hsub w hw⟩
theorem zf4 {b:Bool}{ty pos af g}{x:Operand}{as':Array Operand}{ats:Array TypeId}{first captured:Array Value}{vs:List Value}(hg:zba ops env g=some b)(hb:b=true)
 (hk:(kf ⟨none,.call {callee:=.value x,args:=as',argTypes:=ats},ty,pos,af,g⟩).wr=true)
 (hx:zaR env x=some (.func (.func f) first captured)) (hv:zbM env as'.toList=some vs) (hargs:first.toList++vs++captured.toList=args) (hs:zaI P W f args h R)
 (hK:∀v h',R v h'→ES P W N kf ops rest env h' K):ES P W N kf ops (⟨none,.call {callee:=.value x,args:=as',argTypes:=ats},ty,pos,af,g⟩::rest) env h K:=fun a ha=>by
 subst hb hargs
 refine zbg (it:=zaX kf ops ⟨none,.call {callee:=.value x,args:=as',argTypes:=ats},ty,pos,af,g⟩) (zaZ ha hg) (ze2 hk) (fun w hw=> ?_)
 unfold Oper.wp
 show Oper.upon P _ a _ _ ((execOp a.eval ⟨none,.call {callee:=.value x,args:=as',argTypes:=ats},ty,pos,af,g⟩).run P w)
 rw[zbX hs.1 ha hx hv]
 rw[Oper.upon_enter]
 refine(hs.2 w hw).mono fun e w' ⟨v,h',he,hr,hrep⟩=> ?_
 subst he
 exact⟨h',hrep,hK v h' hr _ ha⟩
/-! ### code -/
def AW (P:Program)(W:World)(N:Nat)(c:Code)(env:Env)(h:List zah)(Q:Exit→Env→List zah→Prop):Prop:=
 ∀a w,za3 N env a→Rep W h w→c.wp P (fun ex a' w'=>∃env' h',Q ex env' h'∧za3 N env' a'∧Rep W h' w') a w
def SeqQ (P:Program)(W:World)(N:Nat)(y:Code)(Q:Exit→Env→List zah→Prop):Exit→Env→List zah→Prop
 | .normal,env,h=>AW P W N y env h Q
 |ex,env,h=>Q ex env h
def zgz (id:Nat)(Q:Exit→Env→List zah→Prop):Exit→Env→List zah→Prop
 | .exit i,env,h=>if i=id then Q .normal env h else Q (.exit i) env h
 |ex,env,h=>Q ex env h
theorem zam (hq:Q .normal env h):AW P W N .skip env h Q:=fun _ _ ha hw=>wp_skip ⟨env,h,hq,ha,hw⟩
theorem zan {id:Nat}(hq:Q (.exit id) env h):AW P W N (.exit id) env h Q:=fun _ _ ha hw=>wp_exit ⟨env,h,hq,ha,hw⟩
theorem zaz (hq:Q .ret env h):AW P W N .ret env h Q:=fun _ _ ha hw=>wp_ret ⟨env,h,hq,ha,hw⟩
theorem zaA {x y:Code}(hx:AW P W N x env h (SeqQ P W N y Q)):AW P W N (.seq x y) env h Q:=fun a w ha hw=>by
 refine wp_seq (Code.wp_mono (fun ex a' w' ⟨env',h',hq,ha',hw'⟩=> ?_) (hx a w ha hw))
 cases ex with
 |normal=>exact hq a' w' ha' hw'
 |_=>exact⟨env',h',hq,ha',hw'⟩
theorem zae {id:Nat}{c:Code}(hc:AW P W N c env h (zgz id Q)):AW P W N (.block id c) env h Q:=fun a w ha hw=>by
 refine wp_block (Code.wp_mono (fun ex a' w' ⟨env',h',hq,ha',hw'⟩=> ?_) (hc a w ha hw))
 cases ex with
 |exit i=>
  simp only[zgz]at hq
  simp only[Exit.inBlock]
  split at hq<;>rename_i hi<;>simp only[hi,if_true,if_false]<;>exact⟨env',h',hq,ha',hw'⟩
 |_=>exact⟨env',h',hq,ha',hw'⟩
theorem zao {c:Operand}{x y:Code}{t:Bool}(hc:zaR env c=some (.bool t))(h1:t=true→AW P W N x env h Q)(h0:t=false→AW P W N y env h Q):AW P W N (.cond c x y) env h Q:=fun a w ha hw=>
 wp_cond_split (ha.eval hc) (fun e=>h1 e a w ha hw) (fun e=>h0 e a w ha hw)
theorem zaf {c:Operand}{x y:Code}{t:Bool}(hc:zaR env c=some (.bool t))(ht:t=true)(h1:AW P W N x env h Q):AW P W N (.cond c x y) env h Q:=fun a w ha hw=>
 wp_cond_true (by rw[ha.eval hc,ht]) (h1 a w ha hw)
theorem zag {c:Operand}{x y:Code}{t:Bool}(hc:zaR env c=some (.bool t))(ht:t=false)(h1:AW P W N y env h Q):AW P W N (.cond c x y) env h Q:=fun a w ha hw=>
 wp_cond_false (by rw[ha.eval hc,ht]) (h1 a w ha hw)
theorem zfo (ops:Array Oper)(kf:KF):zdx ops (fun i=>match ops[i]? with|some o=>kf o|none=>.write) kf.keep=ops.toList.map (zaX kf ops):=by
 unfold zdx
 have key:∀(l:List Oper) (k:Nat),(∀j,l[j]? =ops[k+j]?)→(List.range' k l.length).filterMap (zaW (fun i=>match ops[i]? with|some o=>kf o|none=>.write) kf.keep ops)=l.map (zaX kf ops):=by
  intro l
  induction l with
  |nil=>intro k _;rfl
  |cons o l ih=>
   intro k hl
   have h0:ops[k]? =some o:=by simpa using (hl 0).symm
   rw[List.length_cons,List.range'_succ,List.filterMap_cons]
   have:zaW (fun i=>match ops[i]? with|some o=>kf o|none=>.write) kf.keep ops k=some (zaX kf ops o):=by unfold zaW;simp only[h0,Option.map_some];rfl
   rw[this,ih (k+1) (fun j=>by have:=hl (j+1);simpa [Nat.add_assoc,Nat.add_comm 1 j]using this)]
   rfl
 have:=key ops.toList 0 (by simp)
 rw[List.range_eq_range',←Array.length_toList,this]
theorem zaa {id:Nat}{l:List Oper}(hes:ES P W N kfN l.toArray l env h fun env' h'=>Q .normal env' h'):AW P W N (.region id l.toArray false) env h Q:=fun a w ha hw=>by
 refine ze1 (W:=W) (kp:=kfN.keep) (kd:=fun i=>match l.toArray[i]? with|some o=>kfN o|none=>.write) (Q:=fun a' h'=>∃env',Q .normal env' h'∧za3 N env' a') (fun a' h' w' hw' ⟨env',hq,ha'⟩=>⟨env',h',hq,ha',hw'⟩) hw ?_
 rw[zfo]
 exact hes a ha
def kdOf (kf:KF)(ops:Array Oper):Nat→Kd:=fun i=>match ops.toList[i]? with
 |some o=>kf o
 |none=>.write
theorem zdi (ops:Array Oper)(kf:KF):∀(order:List Nat),zcK ops (kdOf kf ops) kf.keep order=(order.filterMap (ops.toList[·]?)).map (zaX kf ops)
 |[]=>rfl
 |i::order=>by
  have ih:=zdi ops kf order
  unfold zcK at*
  rw[List.filterMap_cons,List.filterMap_cons]
  cases hi:ops[i]? with
  |none=>
   have e1:zaW (kdOf kf ops) kf.keep ops i=none:=by unfold zaW;rw[hi];rfl
   have e2:ops.toList[i]? =none:=by simpa using hi
   rw[e1,e2];exact ih
  |some o=>
   have e2:ops.toList[i]? =some o:=by simpa using hi
   have e1:zaW (kdOf kf ops) kf.keep ops i=some (zaX kf ops o):=by unfold zaW;simp only[hi,Option.map_some,kdOf,e2];rfl
   rw[e1,e2,List.map_cons,ih]
/-- a region whose order is drawn: 'order': the plan; 'l': its operations in that order -/
theorem zgK {id:Nat}{ol l:List Oper}(q al:List FuncId)(order:List Nat)(hm:P.follows .mixedOrders=true)
 (hp:(Region.noSelect ol.toArray&&(order.length==ol.toArray.size&&zcJ (kdOf (kfD q al) ol.toArray) ol.toArray (Region.before ol.toArray) order (Array.replicate ol.toArray.size false)))=true)
 (hl:order.filterMap (ol[·]?)=l) (hes:ES P W N (kfD q al) ol.toArray l env h fun env' h'=>Q .normal env' h'):AW P W N (.region id ol.toArray true) env h Q:=fun a w ha hw=>by
 refine zek (W:=W) (kp:=(kfD q al).keep) (kd:=kdOf (kfD q al) ol.toArray) (Q:=fun a' h'=>∃env',Q .normal env' h'∧za3 N env' a') (fun a' h' w' hw' ⟨env',hq,ha'⟩=>⟨env',h',hq,ha',hw'⟩) hm hp hw ?_
 rw[zdi]
 simp only[hl]
 exact hes a ha
/-- a region, walked along a plan that parts -/
def EP (P:Program)(W:World)(N:Nat)(kf:KF)(ops:Array Oper)(p:Plan)(env:Env)(h:List zah)(K:Env→List zah→Prop):Prop:=
 ∀a,za3 N env a→seqP P W (kdOf kf ops) kf.keep ops (fun a' h'=>∃env',K env' h'∧za3 N env' a') p a h
theorem zb5 (hK:K env h):EP P W N kf ops .nil env h K:=fun _ ha=>⟨env,hK,ha⟩
theorem zb6 {p q:Plan}(h1:EP P W N kf ops p env h K)(h2:EP P W N kf ops q env h K):EP P W N kf ops (.alt p q) env h K:=fun a ha=>⟨h1 a ha,h2 a ha⟩
theorem zbA {i:Nat}{o:Oper}{p:Plan}(ho:ops.toList[i]? =some o)(hes:ES P W N kf ops [o] env h fun env' h'=>EP P W N kf ops p env' h' K):EP P W N kf ops (.step i p) env h K:=fun a ha it hit=>by
 have ho':ops[i]? =some o:=by simpa using ho
 have e1:zaW (kdOf kf ops) kf.keep ops i=some (zaX kf ops o):=by unfold zaW;simp only[ho',Option.map_some,kdOf,ho];rfl
 rw[e1]at hit
 injection hit with hit
 subst hit
 exact zcf (fun a' h' ⟨env',h1,h2⟩=>h1 a' h2) (hes a ha)
/-- what is asked of a frame -/
def Sub (env:Env):Env→Prop
 |[]=>True
 |(t,v)::e=>env.lookup t=some v∧Sub env e
theorem zcN {a:Act}:∀{e:Env},Sub env e→za3 N env a→za3 N e a
 |[],_,ha=>⟨ha.size,ha.defers,fun t v hv=>by simp at hv⟩
 |(t,v)::e,hs,ha=>⟨ha.size,ha.defers,fun u x hx=>by
    rw[List.lookup_cons]at hx
    split at hx
    ·rename_i he
     obtain rfl:u=t:=by simpa using he
     injection hx with hx
     subst hx
     exact ha.at_ _ _ hs.1
    ·exact(zcN hs.2 ha).at_ u x hx⟩
def zgL {α:Type}(E:α→Env)(H:α→List zah)(μ:α→Nat)(S:α→Prop)(x:α)(Q:Exit→Env→List zah→Prop):Exit→Env→List zah→Prop
 | .normal,env,h=>∃y J,μ y<μ x∧S y∧Sub env (E y)∧h.Perm (J++H y)
 |ex,env,h=>Q ex env h
theorem zcc {α:Type}{c:Code}(E:α→Env)(H:α→List zah)(μ:α→Nat)(S:α→Prop)(x:α){J:List zah}(hs:S x)(he:Sub env (E x))(hp:h.Perm (J++H x))
 (hc:∀x,S x→AW P W N c (E x) (H x) (zgL E H μ S x Q)):AW P W N (.loop c) env h Q:=fun a w ha hw=>by
 classical
 let I:Act→World→Prop:=fun a w=>∃x,S x∧za3 N (E x) a∧Rep W (H x) w
 have hI0:I a w:=⟨x,hs,zcN he ha,(hw.perm hp).drop⟩
 let μ':Act→World→Nat:=fun a w=>if hI:I a w then
  (Classical.epsilon fun n=>∃x,S x∧za3 N (E x) a∧Rep W (H x) w∧μ x=n∧∀y,S y→za3 N (E y) a→Rep W (H y) w→n≤μ y)else 0
 have hmin:∀a w,I a w→∃x,S x∧za3 N (E x) a∧Rep W (H x) w∧μ x=μ' a w∧∀y,S y→za3 N (E y) a→Rep W (H y) w→μ' a w≤μ y:=by
  intro a w hI
  have hex:∃n,∃x,S x∧za3 N (E x) a∧Rep W (H x) w∧μ x=n∧∀y,S y→za3 N (E y) a→Rep W (H y) w→n≤μ y:=by
   have key:∀n,(∃x,S x∧za3 N (E x) a∧Rep W (H x) w∧μ x=n)→∃n,∃x,S x∧za3 N (E x) a∧Rep W (H x) w∧μ x=n∧∀y,S y→za3 N (E y) a→Rep W (H y) w→n≤μ y:=by
    intro n
    induction n using Nat.strongRecOn with
    |_ n ih=>
     rintro⟨x,h1,h2,h3,h4⟩
     by_cases hq:∀y,S y→za3 N (E y) a→Rep W (H y) w→n≤μ y
     ·exact⟨n,x,h1,h2,h3,h4,hq⟩
     ·simp only[Classical.not_forall,Nat.not_le]at hq
      obtain⟨y,k1,k2,k3,k4⟩:=hq
      exact ih (μ y) k4 ⟨y,k1,k2,k3,rfl⟩
   obtain⟨x,h1,h2,h3⟩:=hI
   exact key (μ x) ⟨x,h1,h2,h3,rfl⟩
  have:=Classical.epsilon_spec hex
  have e:μ' a w=Classical.epsilon fun n=>∃x,S x∧za3 N (E x) a∧Rep W (H x) w∧μ x=n∧∀y,S y→za3 N (E y) a→Rep W (H y) w→n≤μ y:=dif_pos hI
  rw[e]
  exact this
 refine wp_loop I μ' hI0 (fun a w hI=> ?_)
 obtain⟨x,h1,h2,h3,h4,_⟩:=hmin a w hI
 refine Code.wp_mono (fun ex a' w' ⟨env',h',hq,ha',hw'⟩=> ?_) (hc x h1 a w h2 h3)
 cases ex with
 |normal=>
  obtain⟨y,J,k1,k2,k3,k4⟩:=hq
  have ha2:=zcN k3 ha'
  have hw2:=(hw'.perm k4).drop
  have hI':I a' w':=⟨y,k2,ha2,hw2⟩
  obtain⟨_,_,_,_,_,hle⟩:=hmin a' w' hI'
  have:=hle y k2 ha2 hw2
  exact⟨hI',by omega⟩
 |_=>exact⟨env',h',hq,ha',hw'⟩
/-! ### a function's body -/
def zdj :Nat→List Value→Env
 |_,[]=>[]
 |i,v::vs=>(i,v)::zdj (i+1) vs
theorem zcO :∀(vs:List Value) (i t:Nat) (v:Value),(zdj i vs).lookup t=some v→i≤t∧vs[t - i]? =some v
 |[],_,_,_,hv=>by simp[zdj]at hv
 |u::vs,i,t,v,hv=>by
  rw[zdj,List.lookup_cons]at hv
  split at hv
  ·rename_i he
   obtain rfl:t=i:=by simpa using he
   injection hv with hv
   subst hv
   simp
  ·have:=zcO vs (i+1) t v hv
   refine⟨by omega,?_⟩
   rw[show t - i=(t - (i+1))+1 by omega]
   simpa using this.2
def zdR (P:Program)(W:World)(h:List zah)(env:Env):List ResultVar→List Value→Prop
 |[],[]=>True
 | .tmp t::rs,v::vs=>env.lookup t=some v∧zdR P W h env rs vs
 | .cell a t::rs,v::vs=>(∃ad,env.lookup a=some (.pointer (some ad))∧Ld P W h t ad v)∧zdR P W h env rs vs
 |_,_=>False
def oneV :List Value→Value
 |[v]=>v
 |vs=>.tuple vs.toArray
def RetQ (P:Program)(W:World)(res:List ResultVar)(R:Value→List zah→Prop):Exit→Env→List zah→Prop
 | .ret,env,h=>∃vs,zdR P W h env res vs∧R (oneV vs) h
 | .normal,env,h=>∃vs,zdR P W h env res vs∧R (oneV vs) h
 |_,_,_=>False
def zeI (tmps:Array Value):ResultVar→Sem Value
 | .tmp t=>pure (tmps.getD t undef)
 | .cell a t=>do loadVar t (←asAddr (tmps.getD a undef))
theorem ze3 (fn:Func)(tmps:Array Value):results fn tmps=(do
 let vs ←fn.results.mapM (zeI tmps)
 pure (if h:vs.size=1 then vs[0]else .tuple vs)):=by
 unfold results
 congr 2
theorem zcP {fn:Func}{a:Act}{w:World}{vs:List Value}(ha:za3 N env a)(hw:Rep W h w)(hr:zdR P W h env fn.results.toList vs):(results fn a.tmps).run P w=.ok (oneV vs) w:=by
 have hws:RepS W h w:=hw.weak fun _ hc=>hc
 have key:∀(rs:List ResultVar) (vs:List Value),zdR P W h env rs vs→(rs.mapM (zeI a.tmps)).run P w=.ok vs w:=by
  intro rs
  induction rs with
  |nil=>intro vs hv;cases vs<;>simp[zdR]at hv ⊢
  |cons r rs ih=>
   intro vs hv
   cases vs with
   |nil=>cases r<;>simp[zdR]at hv
   |cons v vs=>
    cases r with
    |tmp t=>
     have h1:=ha.at_ t v hv.1
     simp only[List.mapM_cons,zeI,Sem.run_bind,Sem.run_pure,Result.andThen_ok,ih vs hv.2]
     simp[h1]
    |cell c t=>
     obtain⟨⟨ad,h1,h2⟩,h3⟩:=hv
     have h1:=ha.at_ c _ h1
     have h2:=h2 w hws
     simp only[Instr.loadAt,Instr.sureAddr,Sem.run_bind,Sem.run_pure,Result.andThen_ok]at h2
     have h4:a.tmps.getD c undef=.pointer (some ad):=by simp[h1]
     simp only[List.mapM_cons,zeI,Sem.run_bind,h4,asAddr,Sem.run_pure,Result.andThen_ok,h2,ih vs h3]
 have:=key _ _ hr
 rw[ze3,Array.mapM_eq_mapM_toList]
 simp only[Sem.run_bind,Sem.run_map,this,Result.andThen_ok,Sem.run_pure]
 cases vs with
 |nil=>rfl
 |cons v vs=>cases vs with
  |nil=>rfl
  |cons u us=>simp[oneV]
theorem zau {fn : Func} {c : Code} (hf : P.funcs[f]? = some fn) (hb : fn.body = some c) (hn : (fn.name == "runtime.NumGoroutine") = false) {res : Array ResultVar} (hres : fn.results = res) {N : Nat} (hN : fn.ntmps = N) (hargs : Nat.ble args.length N = true) {E : Env} (hE : zdj 0 args = E)
 (hbody:AW P W N c E h (RetQ P W res.toList R)):zaI P W f args h R:=by
 subst hN hres hE
 have hargs:=Nat.le_of_ble_eq_true hargs
 refine⟨⟨fn,hf,hn,by rw[hb];rfl⟩,fun w hw=>calls_of_wp hf hb ?_⟩
 have ha:za3 fn.ntmps (zdj 0 args) {tmps:=args.toArray++Array.replicate (fn.ntmps - args.toArray.size) undef,defers:=[]}:=by
  refine⟨by simp;omega,rfl,fun t v hv=> ?_⟩
  obtain⟨_,h2⟩:=zcO args 0 t v hv
  have hlt:t<args.length:=by simpa using (gsi.1 h2).1
  rw[Array.getElem?_append_left (by simpa using hlt)]
  simpa using h2
 refine Code.wp_mono (fun ex a' w' ⟨env',h',hq,ha',hw'⟩=> ?_) (hbody _ w ha hw)
 cases ex with
 |ret=>obtain⟨vs,hv,hr⟩:=hq;exact⟨ha'.defers,_,zcP ha' hw' hv,_,h',rfl,hr,hw'⟩
 |normal=>obtain⟨vs,hv,hr⟩:=hq;exact⟨ha'.defers,_,zcP ha' hw' hv,_,h',rfl,hr,hw'⟩
 |_=>exact hq.elim
end
end Go.Sl
set_option linter.unusedSimpArgs false
set_option linter.unusedVariables false
namespace Go.Sl
open Go Go.RowKit
/-! ### struct and slice literals -/
def zct (T:Tab):List Field→Option (List (Nat×Nat))
 |[]=>some []
 |f::fs=>match T.lookup f.type,zct T fs with
  |some ti,some ps=>some ((f.offset,ti.size)::ps)
  |_,_=>none
def zdA (place:Nat→Option (Nat×Nat))(cells:List Value):List (Nat×Value)→Option (List Value)
 |[]=>some cells
 |(i,v)::rest=>match place i with
  |none=>none
  |some (off,size)=>if v.cells.size=size∧off+size≤cells.length then zdA place (lay cells off v.cells.toList) rest else none
def zch (env:Env):List (Nat×Operand)→Option (List (Nat×Value))
 |[]=>some []
 |(i,x)::xs=>match zaR env x,zch env xs with
  |some v,some vs=>some ((i,v)::vs)
  |_,_=>none
def zfp (T:Tab)(env:Env)(t:TypeId)(parts:List (Nat×Operand)):Option (List Value):=
 match T.lookup t with
 |some ⟨.struct fs,_,_,z⟩=>match zct T fs.toList,zch env parts with
  |some ps,some vs=>zdA (fun i=>ps[i]?) z.cells.toList vs
  |_,_=>none
 |some ⟨.array _ e,_,_,z⟩=>match T.lookup e,zch env parts with
  |some ti,some vs=>zdA (fun i=>some (i*ti.size,ti.size)) z.cells.toList vs
  |_,_=>none
 |_=>none
section
variable {P : Program} {W : World} {T : Tab} {N : Nat} {env env' : Env} {h h' h2 : List zah} {kf : KF} {ops : Array Oper} {K : Env → List zah → Prop} {o : Oper} {rest : List Oper} {Q : Exit → Env → List zah → Prop}
theorem za3.parts {a:Act}(ha:za3 N env a):∀{xs:List (Nat×Operand)} {vs:List (Nat×Value)},zch env xs=some vs→xs.map (fun p=>(p.1,a.eval p.2))=vs
 |[],vs,hx=>by simp[zch]at hx;simp[hx]
 |(i,x)::xs,vs,hx=>by
  unfold zch at hx
  split at hx
  ·rename_i v us h1 h2
   injection hx with hx
   subst hx
   simp[ha.eval h1,ha.parts h2]
  ·cases hx
theorem zdk (hT:zbc P T)(w:World):∀{fs:List Field} {ps:List (Nat×Nat)},zct T fs=some ps→
 (fs.mapM (fun f:Field=>(do pure (f.offset,←Go.sizeOf f.type):Sem (Nat×Nat)))).run P w=.ok ps w
 |[],ps,hp=>by simp[zct]at hp;subst hp;rfl
 |f::fs,ps,hp=>by
  unfold zct at hp
  split at hp
  ·rename_i ti qs h1 h2
   injection hp with hp
   subst hp
   have g:=hT _ _ h1
   simp only[List.mapM_cons,Sem.run_bind,g.sz,Result.andThen_ok,Sem.run_pure,zdk hT w h2]
  ·cases hp
theorem zgM (cells:List Value)(vs:List Value):∀off,off+vs.length≤cells.length→
 (vs.zipIdx.foldl (fun cs (p:Value×Nat)=>cs.set (off+p.2) p.1) cells)=lay cells off vs:=by
 have key:∀(vs:List Value) (k off:Nat) (cells:List Value),off+k+vs.length≤cells.length→
  ((vs.zipIdx k).foldl (fun cs (p:Value×Nat)=>cs.set (off+p.2) p.1) cells)=lay cells (off+k) vs:=by
  intro vs
  induction vs with
  |nil=>intro k off cells _;simp[lay]
  |cons v vs ih=>
   intro k off cells hl
   simp only[List.length_cons]at hl
   rw[List.zipIdx_cons,List.foldl_cons,ih (k+1) off _ (by simp;omega)]
   have:=list_seg_step cells (off+k) v vs (by omega)
   simpa [lay,Nat.add_assoc]using this
 intro off hl
 have:=key vs 0 off cells (by omega)
 simpa using this
theorem zeJ (off:Nat):∀(l:List (Value×Nat)) (cells:Array Value),(l.foldl (fun cs (p:Value×Nat)=>cs.setIfInBounds (off+p.2) p.1) cells).toList=l.foldl (fun cs (p:Value×Nat)=>cs.set (off+p.2) p.1) cells.toList
 |[],_=>rfl
 |p::l,cells=>by rw[List.foldl_cons,List.foldl_cons,zeJ off l];simp
theorem zdB (place:Nat→Option (Nat×Nat)):∀(parts:List (Nat×Value)) (cells:List Value) (cells':List Value),zdA place cells parts=some cells'→
 Instr.fill place cells.toArray parts=some cells'.toArray
 |[],cells,cells',hf=>by simp[zdA]at hf;simp[Instr.fill,hf]
 |(i,v)::rest,cells,cells',hf=>by
  unfold zdA at hf
  unfold Instr.fill
  split at hf
  ·cases hf
  ·rename_i off size hp
   split at hf
   ·rename_i hc
    simp only[hp,hc.1,ne_eq,not_true_eq_false,List.size_toArray,decide_false,Bool.false_or,decide_eq_true_eq]
    rw[if_neg (by simp;omega)]
    have e:(v.cells.zipIdx.foldl (fun cs (p:Value×Nat)=>cs.setIfInBounds (off+p.2) p.1) cells.toArray)=(lay cells off v.cells.toList).toArray:=by
     rw[←zgM cells v.cells.toList off (by simp[hc.1];exact hc.2)]
     apply Array.ext'
     rw[←Array.foldl_toList,zeJ]
     simp
    have:=zdB place rest _ _ hf
    rw[←this,←e]
   ·cases hf
theorem zbI (hT:zbc P T){b:Bool}{d:Tmp}{ty pos af g}{t:TypeId}{parts:Array (Nat×Operand)}{cs:List Value}(hg:zba ops env g=some b)(hb:b=true)(hd:Nat.blt d N=true)
 (hv:zfp T env t parts.toList=some cs)
 (hK:ES P W N kf ops rest ((d,.agg cs.toArray)::env) h K):ES P W N kf ops (⟨some d,.build t parts,ty,pos,af,g⟩::rest) env h K:=
 zbO hg hb hd (fun a ha w=>by
  have ep:∀vs,zch env parts.toList=some vs→(parts.map fun(p:Nat×Operand)=>(p.1,a.eval p.2)).toList=vs:=fun vs h=>by rw[←ha.parts h];simp
  unfold zfp at hv
  split at hv
  ·rename_i fs s bb z hl
   have gd:=hT _ _ hl
   split at hv
   ·rename_i ps vs h1 h2
    have hf:=zdB _ _ _ _ hv
    have hp:=zdk hT w h1
    have hu:=gd.1
    have e:=ep vs h2
    simp only[execOp,Instr.build,Sem.run_bind,gd.zv,Result.andThen_ok,run_underlying hu,Array.mapM_eq_mapM_toList,Sem.run_map,hp,e]
    have hf':Instr.fill (fun x=>ps.toArray[x]?) z.cells vs=some cs.toArray:=by simpa using hf
    rw[hf']
    rfl
   ·cases hv
  ·rename_i len e s bb z hl
   have gd:=hT _ _ hl
   split at hv
   ·rename_i ti vs h1 h2
    have gt:=hT _ _ h1
    have hf:=zdB _ _ _ _ hv
    have hu:=gd.1
    have e:=ep vs h2
    simp only[execOp,Instr.build,Sem.run_bind,gd.zv,Result.andThen_ok,run_underlying hu,gt.sz,e]
    have hf':Instr.fill (fun i=>some (i*ti.size,ti.size)) z.cells vs=some cs.toArray:=by simpa using hf
    rw[hf']
    rfl
   ·cases hv
  ·cases hv) hK
def repZ (z:List Value):Nat→List Value
 |0=>[]
 |n+1=>z++repZ z n
theorem zeK (z:List Value):∀n,(repZ z n).length=n*z.length
 |0=>by simp[repZ]
 |n+1=>by simp[repZ,zeK z n,Nat.add_mul,Nat.add_comm]
theorem zfq (z:List Value)(hz:0<z.length):∀(n j:Nat),j<n*z.length→(repZ z n)[j]? =z[j%z.length]?
 |0,j,h=>by omega
 |n+1,j,h=>by
  rw[repZ]
  by_cases hj:j<z.length
  ·rw[List.getElem?_append_left hj,Nat.mod_eq_of_lt hj]
  ·rw[List.getElem?_append_right (by omega),zfq z hz n _ (by rw[Nat.add_mul]at h;omega)]
   congr 1
   rw[←Nat.mod_eq_sub_mod (by omega)]
theorem zgN (z:Value)(n:Nat)(hz:0<z.cells.size):(Array.range (n*z.cells.size)).map (fun i=>z.cells[i%z.cells.size]!)=(repZ z.cells.toList n).toArray:=by
 apply Array.ext'
 apply List.ext_getElem?
 intro j
 by_cases hj:j<n*z.cells.size
 ·have hm:=Nat.mod_lt j hz
  rw[show(repZ z.cells.toList n).toArray.toList=repZ z.cells.toList n from rfl,zfq _ (by simpa using hz) n j (by simpa using hj)]
  simp[hj,List.getElem?_range,hm]
 ·have h1:(repZ z.cells.toList n)[j]? =none:=List.getElem?_eq_none (by rw[zeK];simpa using hj)
  simp[h1]
  omega
theorem zaP (hT:zbc P T){b:Bool}{d:Tmp}{ty pos af g}{t e:TypeId}{ti te:TI}{len:Nat}{parts:Array (Nat×Operand)}{vs:List (Nat×Value)}{cs:List Value}(hg:zba ops env g=some b)(hb:b=true)(hd:Nat.blt d N=true)
 (hk:(kf ⟨some d,.buildSlice t len parts,ty,pos,af,g⟩).al=true) (ht:T.lookup t=some ti) (htd:ti.desc=.slice e) (hte:T.lookup e=some te) (hsz:(Nat.blt 0 te.zero.cells.size&&(te.zero.cells.size==te.size)&&Nat.ble (len*te.size) 16777216)=true)
 (hv:zch env parts.toList=some vs) (hf:zdA (fun i=>some (i*te.size,te.size)) (repZ te.zero.cells.toList len) vs=some cs) (hl:(cs.length==len*te.size)=true) (h1:cs.all Value.oneCell'=true)
 (hK:∀g',ES P W N kf ops rest ((d,.slice (some ⟨g',0,none⟩) len len)::env) (.own (some ⟨g',0,none⟩) len len e te.size cs::h) K):ES P W N kf ops (⟨some d,.buildSlice t len parts,ty,pos,af,g⟩::rest) env h K:=fun a ha=>by
 subst hb
 simp only[Bool.and_eq_true,beq_iff_eq,Nat.ble_eq,Nat.blt_eq]at hsz hl
 obtain⟨⟨hz0,hz1⟩,hz2⟩:=hsz
 refine zbn (it:=zaX kf ops ⟨some d,.buildSlice t len parts,ty,pos,af,g⟩) (zaZ ha hg) (zfm hk) (fun w hw=> ?_)
 have g1:=hT _ _ ht
 have g2:=hT _ _ hte
 have hu:=g1.1
 rw[htd]at hu
 have ep:(parts.map fun(p:Nat×Operand)=>(p.1,a.eval p.2)).toList=vs:=by rw[←ha.parts hv];simp
 have hf':=zdB _ _ _ _ hf
 have hrun:(execOp a.eval ⟨some d,.buildSlice t len parts,ty,pos,af,g⟩).run P w=.ok (.value (.slice (some ⟨w.heap.size,0,none⟩) len len)) (w.alloc (.cells cs.toArray e)):=by
  have hm:=zgN te.zero len hz0
  have hlen:¬len*te.size>2^24:=by omega
  by_cases h0:len*te.size=0
  ·have hlz:len=0:=by
    rcases Nat.eq_zero_or_pos len with h|h
    ·exact h
    ·have:=Nat.mul_pos h (by omega:0<te.size);omega
   subst hlz
   have hf2:Instr.fill (fun i=>some (i*te.size,te.size)) #[] vs=some cs.toArray:=hf'
   simp only[execOp,Instr.buildSlice,Sem.run_bind,run_underlying hu,Result.andThen_ok,g2.sz,if_neg hlen,if_pos h0,Sem.run_pure,ep]
   have e0:(Array.range (0*te.size)).map (fun i=>(#[]:Array Value)[i%(#[]:Array Value).size]!)= #[]:=by rw[h0];simp
   rw[e0,hf2]
   simp[newRow]
  ·simp only[execOp,Instr.buildSlice,Sem.run_bind,run_underlying hu,Result.andThen_ok,g2.sz,if_neg hlen,if_neg h0,Sem.run_pure,g2.zv,ep]
   have hm2:(Array.range (len*te.size)).map (fun i=>te.zero.cells[i%te.zero.cells.size]!)=(repZ te.zero.cells.toList len).toArray:=by rw[←hm,hz1]
   rw[hm2,hf']
   simp[newRow]
 unfold Oper.wp
 show Oper.upon P _ a _ _ ((execOp a.eval ⟨some d,.buildSlice t len parts,ty,pos,af,g⟩).run P w)
 rw[hrun]
 refine⟨[.own (some ⟨w.heap.size,0,none⟩) len len e te.size cs],?_,hK w.heap.size _ (ha.put (d:=some d) hd)⟩
 refine hw.alloc_own e len te.size cs hl ?_ (fun v hv=>List.all_eq_true.1 h1 v hv)
 have:len≤len*te.size:=Nat.le_mul_of_pos_right _ (by omega)
 simp only[maxLen];omega
/-! ### slicing -/
/-- a region whose order is drawn, walked in the order of its text -/
theorem zas {id:Nat}{ol:List Oper}(q al:List FuncId)(hm:P.follows .mixedOrders=true)
 (hp:(Region.noSelect ol.toArray&&zcJ (kdOf (kfD q al) ol.toArray) ol.toArray (Region.before ol.toArray) (List.range ol.length) (Array.replicate ol.length false))=true)
 (hes:ES P W N (kfD q al) ol.toArray ol env h fun env' h'=>Q .normal env' h'):AW P W N (.region id ol.toArray true) env h Q:=by
 refine zgK q al (List.range ol.length) hm ?_ ?_ hes
 ·simpa using hp
 ·have key:∀(l m:List Oper),(List.range' m.length l.length).filterMap ((m++l)[·]?)=l:=by
   intro l
   induction l with
   |nil=>intro m;rfl
   |cons o l ih=>
    intro m
    rw[List.length_cons,List.range'_succ,List.filterMap_cons]
    have:(m++o::l)[m.length]? =some o:=by simp
    rw[this]
    have e:=ih (m++[o])
    simp only[lla,List.length_cons,List.length_nil,List.append_assoc,List.singleton_append]at e
    simp only[List.cons.injEq,true_and]
    exact e
  have:=key ol []
  rw[List.range_eq_range']
  simpa using this
/-! ### append -/
theorem zdC {w:World}{B:Nat}{t ty e:TypeId}{te:TI}(ht:P.underlying t=some (.slice e))(hte:zaB P e te)(hzs:te.zero.cells.size=te.size)(hsz:0<te.size)
 {A A2:Option Addr} {n c m c2:Nat} {cs news:List Value} (hown:w.ownsRow B e te.size (.slice A n c) n cs) (hl:news.length=m*te.size) (hnews:∀j v,news[j]? =some v→A2.isSome=true∧w.cell? (adr A2 j)=some v) (h1:∀v∈news,v.oneCell'=true)
 (h63:n+m≤maxLen)(hbytes:(n+m)*te.bytes≤140737488355328)(hbase:B≤w.heap.size):
 ∃A' c' w',(Builtin.append_ #[t,t] ty #[.slice A n c,.slice A2 m c2]).run P w=.ok (.slice A' (n+m) c') w'∧w'.ownsRow B e te.size (.slice A' (n+m) c') (n+m) (cs++news)∧w.grownBy w' (A.map (·.block))∧
  (A'.map (·.block)=A.map (·.block)∨A'.map (·.block)=some w.heap.size):=by
 obtain⟨hu,i,hi,s1,s2,s3⟩:=hte
 have hob:∀(A:Option Addr) n c,(Value.slice A n c).ownBlock=A.map (·.block):=fun A n c=>by cases A<;>rfl
 cases A2 with
 |some ad=>
  have hn2:∀j v,news[j]? =some v→w.cell? (ad.add j)=some v:=fun j v hv=>(hnews j v hv).2
  obtain⟨v',w',k1,k2,k3,_,k5⟩:=run_append_own_at (P:=P) w B t ty e i te.zero te.size te.bytes ht hi s3 s1 s2 hzs hsz _ n cs hown ad m c2 news hl hn2 h1 h63 hbytes hbase
  rcases k2.2 with ⟨rfl,h0⟩|⟨gg,cap,cur,rfl,rst⟩
  ·refine⟨none,0,w',by rw[h0];exact k1,by rw[h0]at k2 ⊢;exact k2,by simpa [hob]using k3,by simpa [hob]using k5⟩
  ·exact⟨some ⟨gg,0,none⟩,cap,w',k1,k2,by simpa [hob]using k3,by simpa [hob]using k5⟩
 |none=>
  have hn0:news=[]:=by
   cases news with
   |nil=>rfl
   |cons v vs=>have:=(hnews 0 v rfl).1;simp at this
  subst hn0
  have hm0:m=0:=by
   rcases Nat.eq_zero_or_pos m with h|h
   ·exact h
   ·have:=Nat.mul_pos h hsz;simp at hl;omega
  subst hm0
  refine⟨A,c,w,?_,by simpa using hown,World.grownBy.refl w _,.inl rfl⟩
  rcases hown.2 with ⟨hv,hn⟩|⟨g,cap,cur,hv,_,_,hnc,_⟩
  ·injection hv with e1 e2 e3
   subst e1 e2 e3
   simp[Builtin.append_,run_underlying ht,Go.sizeOf,typeInfo,hi,Builtin.lenOf,Builtin.firstCells]
  ·injection hv with e1 e2 e3
   subst e1 e3
   simp[Builtin.append_,run_underlying ht,Go.sizeOf,typeInfo,hi,Builtin.lenOf,Builtin.firstCells,hnc,storeCells]
theorem ze4 {w w':World}{A A':Option Addr}{n c m c' k:Nat}{e:TypeId}{cs news:List Value}(hw:Rep W (.own A n c e k cs::h) w)
 (k2:w'.ownsRow W.heap.size e k (.slice A' (n+m) c') (n+m) (cs++news))(k3:w.grownBy w' (A.map (·.block)))(k5:A'.map (·.block)=A.map (·.block)∨A'.map (·.block)=some w.heap.size)(h1:∀v∈news,v.oneCell'=true):
 Rep W (.own A' (n+m) c' e k (cs++news)::h) w':=by
 have ho:=hw.holds _ mem0
 refine hw.change k3 (fun g hg=>by simp only[zah.keys];rw[hg];simp) ⟨k2,fun v hv=> ?_⟩ (fun g hg=> ?_)
 ·rcases lma.1 hv with hv|hv
  ·exact ho.2 v hv
  ·exact h1 v hv
 ·simp only[zah.keys]at hg ⊢
  rcases k5 with k5|k5
  ·rw[k5]at hg;exact .inl hg
  ·rw[k5]at hg;right;simp at hg;omega
theorem zbe (hT:zbc P T){b:Bool}{d:Tmp}{ty pos af g}{t e:TypeId}{ti te:TI}{s x:Operand}{A A2:Option Addr}{n c m c2:Nat}{cs news:List Value}(hg:zba ops env g=some b)(hb:b=true)(hd:Nat.blt d N=true)
 (hk:(kf ⟨some d,.call {callee:=.builtin .append,args:= #[s,x],argTypes:= #[t,t]},ty,pos,af,g⟩).wr=true)
 (ht:T.lookup t=some ti) (htd:ti.desc=.slice e) (hte:T.lookup e=some te) (hsz:(Nat.blt 0 te.size&&(te.zero.cells.size==te.size))=true)
 (hs:zaR env s=some (.slice A n c)) (hx:zaR env x=some (.slice A2 m c2)) (hp:h.Perm (.own A n c e te.size cs::h')) (hr:zaE W h A2 m te.size news)
 (h63:n+m≤9223372036854775807) (hbytes:(n+m)*te.bytes≤140737488355328)
 (hK:∀A' c',ES P W N kf ops rest ((d,.slice A' (n+m) c')::env) (.own A' (n+m) c' e te.size (cs++news)::h') K):
 ES P W N kf ops (⟨some d,.call {callee:=.builtin .append,args:= #[s,x],argTypes:= #[t,t]},ty,pos,af,g⟩::rest) env h K:=fun a ha=>by
 subst hb
 simp only[Bool.and_eq_true,beq_iff_eq,Nat.blt_eq]at hsz
 refine zbg (it:=zaX kf ops ⟨some d,.call {callee:=.builtin .append,args:= #[s,x],argTypes:= #[t,t]},ty,pos,af,g⟩) (zaZ ha hg) (ze2 hk) (fun w hw=> ?_)
 have hw':=hw.perm hp
 have g1:=(hT _ _ ht).1
 rw[htd]at g1
 have hws:RepS W h w:=hw.weak fun _ hc=>hc
 obtain⟨A',c',w',k1,k2,k3,k5⟩:=zdC (P:=P) (w:=w) (B:=W.heap.size) (ty:=ty) (c2:=c2) g1 (hT _ _ hte) hsz.2 hsz.1 (hw'.holds _ mem0).1 hr.1 (hr.2.2 w hws) hr.2.1 (by simpa [maxLen]using h63) hbytes hw.below.size
 have hrun:(execOp a.eval ⟨some d,.call {callee:=.builtin .append,args:= #[s,x],argTypes:= #[t,t]},ty,pos,af,g⟩).run P w=.ok (.value (.slice A' (n+m) c')) w':=by
  simp[execOp,resolve,invoke,builtin,ha.eval hs,ha.eval hx,k1]
 unfold Oper.wp
 show Oper.upon P _ a _ _ ((execOp a.eval ⟨some d,.call {callee:=.builtin .append,args:= #[s,x],argTypes:= #[t,t]},ty,pos,af,g⟩).run P w)
 rw[hrun]
 exact⟨_,ze4 hw' k2 k3 k5 hr.2.1,hK A' c' _ (ha.put (d:=some d) hd)⟩
end
end Go.Sl
set_option linter.unusedSimpArgs false
set_option linter.unusedVariables false
namespace Go.Sl
open Go Go.RowKit
section
variable {P : Program} {W : World} {T : Tab} {N : Nat} {env env' : Env} {h h' h2 : List zah} {kf : KF} {ops : Array Oper} {K : Env → List zah → Prop} {o : Oper} {rest : List Oper} {Q : Exit → Env → List zah → Prop}
/-! ### a row laid open to its whole block, and shut again -/
theorem zbB {c:Code}(hc:∀w,Rep W h w→∃h2,Rep W h2 w∧AW P W N c env h2 Q):AW P W N c env h Q:=fun a w ha hw=>
 let ⟨_,hw2,h3⟩:=hc w hw;h3 a w ha hw2
theorem zfr {c:Code}(hp:h.Perm h2)(hc:AW P W N c env h2 Q):AW P W N c env h Q:=fun a w ha hw=>hc a w ha (hw.perm hp)
/-- the facts of a row of the call's own -/
theorem zgO {c:Code}{A:Option Addr}{n cc k:Nat}{e:TypeId}{cs:List Value}(hm:zah.own A n cc e k cs∈h)
 (hc:cs.length=n*k→n≤cc→cc≤9223372036854775807→(0<n→∃g,A=some ⟨g,0,none⟩)→(A=none→cc=0)→(∀v∈cs,v.oneCell'=true)→AW P W N c env h Q):AW P W N c env h Q:=fun a w ha hw=>by
 have ho:=hw.holds _ hm
 refine hc ho.1.1 ?_ ?_ ?_ ?_ ho.2 a w ha hw
 ·rcases ho.1.2 with ⟨hv,hn⟩|⟨g',cap,cur,hv,hb,hg,hnc,_⟩<;>injection hv<;>omega
 ·rcases ho.1.2 with ⟨hv,hn⟩|⟨g',cap,cur,hv,hb,hg,hnc,hcm,_⟩<;>injection hv with _ _ hcc
  ·omega
  ·simp only[maxLen]at hcm;omega
 ·intro h0
  rcases ho.1.2 with ⟨hv,hn⟩|⟨g',cap,cur,hv,_⟩
  ·omega
  ·injection hv with hA _ _;exact⟨g',hA⟩
 ·intro hA
  rcases ho.1.2 with ⟨hv,hn⟩|⟨g',cap,cur,hv,_⟩
  ·injection hv
  ·injection hv with hA' _ _;rw[hA]at hA';cases hA'
theorem zaE.blk {g:Nat}{t:TypeId}{cur:List Value}(hm:zah.blk g t cur∈h){off m k:Nat}{cs:List Value}(hcs:(cur.drop off).take (m*k)=cs)(hl:cs.length=m*k)(h1:∀v∈cs,v.oneCell'=true):zaE W h (some ⟨g,off,none⟩) m k cs:=by
 refine⟨hl,h1,fun w hw j v hj=>⟨rfl,?_⟩⟩
 rw[←hcs]at hj
 simp only[List.getElem?_take,List.getElem?_drop]at hj
 split at hj
 ·simp only[adr,Option.getD_some,zdy,hw.cell_blk hm];exact hj
 ·cases hj
/-! ### plain ones -/
theorem zgA (hT:zbc P T){b:Bool}{e:Int}{d:Tmp}{op ty pos af g}(hg:zba ops env g=some b)(hb:b=true)(hd:Nat.blt d N=true)(hv:zbN T env op=some (.u64,e))
 (h1:0≤e) (h2:e≤18446744073709551615)
 (hK:ES P W N kf ops rest ((d,.int .u64 e)::env) h K):ES P W N kf ops (⟨some d,op,ty,pos,af,g⟩::rest) env h K:=
 zbO hg hb hd (fun _ ha w=>by rw[zbH hT ha hv w,IntWalk.u64_in e ⟨h1,h2⟩]) hK
/-! ### copy, clear, append in place -/
theorem zaK {c:Code}{A:Option Addr}{n k:Nat}{cs:List Value}(hr:zaE W h A n k cs)(hk:Nat.blt 0 k=true)(hc:(0<n→A.isSome=true)→AW P W N c env h Q):AW P W N c env h Q:=fun a w ha hw=>
 hc (fun hn=>by
  have h1:0<n*k:=Nat.mul_pos hn (by simpa using hk)
  have h2:0<cs.length:=by rw[hr.1];exact h1
  exact(hr.2.2 w (hw.weak fun _ hc=>hc) 0 _ (gge h2)).1) a w ha hw
theorem zaI.conv {f:FuncId}{args:List Value}{R R':Value→List zah→Prop}(hs:zaI P W f args h R)(hc:∀v h',R v h'→∀w,Rep W h' w→∃k,Rep W k w∧R' v k):zaI P W f args h R':=
 ⟨hs.1,fun w hw=>(hs.2 w hw).mono fun _ w' ⟨v,h',e,r,rp⟩=>let ⟨k,rp',r'⟩:=hc v h' r w' rp;⟨v,k,e,r',rp'⟩⟩
theorem zaE.take {A n k cs}(hr:zaE W h A n k cs){i:Nat}(hi:i≤n):zaE W h A i k (cs.take (i*k)):=by
 have hle:i*k≤n*k:=Nat.mul_le_mul_right k hi
 refine⟨by rw[llt,hr.1];omega,fun v hv=>hr.2.1 v (List.mem_of_mem_take hv),fun w hw j v hj=>hr.2.2 w hw j v ?_⟩
 rw[List.getElem?_take]at hj
 split at hj
 ·exact hj
 ·cases hj
/-- what is left over may be thrown away -/
def zaL (h k:List zah):Prop:=∃J,h.Perm (J++k)
theorem zbi :zaL h h:=⟨[],plr _⟩
theorem zbt {x:zah}(hd:zaL h h'):zaL (x::h) h':=let ⟨J,hp⟩:=hd;⟨x::J,hp.cons x⟩
theorem za7 {c:zah}(hp:h.Perm (c::h2))(hd:zaL h2 h'):zaL h (c::h'):=let ⟨J,hp2⟩:=hd;⟨J,hp.trans ((hp2.cons c).trans List.perm_middle.symm)⟩
theorem zbb (h1:zaL h h2)(h3:zaL h2 h'):zaL h h':=let ⟨J,p⟩:=h1;let ⟨J2,p2⟩:=h3;⟨J++J2,p.trans (by rw[List.append_assoc];exact(p2.append_left J))⟩
theorem zaL.rep {w:World}{k:List zah}(hd:zaL h k)(hw:Rep W h w):Rep W k w:=let ⟨_,p⟩:=hd;(hw.perm p).drop
theorem zaI.dropTo {f:FuncId}{args:List Value}{R:Value→List zah→Prop}(hs:zaI P W f args h fun v h'=>∃k,zaL h' k∧R v k):zaI P W f args h R:=
 zaI.conv hs fun _ _ ⟨k,hd,hr⟩ _ hw=>⟨k,hd.rep hw,hr⟩
theorem zaC.ofD {f:FuncId}{args:List Value}{v:Value}(hs:∀h',(∀c∈h,c∈h')→zaI P W f args h' fun u k=>u=v∧zaL k h'):zaC P W f args h v:=zaC.of hs
/-! ### the end of a body -/
theorem ret1 {R:Value→List zah→Prop}{t:Tmp}{v:Value}(h1:env.lookup t=some v)(hr:R v h):RetQ P W [.tmp t] R .ret env h:=⟨[v],⟨h1,trivial⟩,hr⟩
theorem ret2 {R:Value→List zah→Prop}{t t2:Tmp}{v v2:Value}(h1:env.lookup t=some v)(h2:env.lookup t2=some v2)(hr:R (.tuple #[v,v2]) h):RetQ P W [.tmp t,.tmp t2] R .ret env h:=⟨[v,v2],⟨h1,h2,trivial⟩,hr⟩
theorem zhp {R:Value→List zah→Prop}{a:Tmp}{t:TypeId}{ad:Addr}{v:Value}(h1:env.lookup a=some (.pointer (some ad)))(hl:Ld P W h t ad v)(hr:R v h):RetQ P W [.cell a t] R .ret env h:=⟨[v],⟨⟨ad,h1,hl⟩,trivial⟩,hr⟩
theorem zf5 {R:Value→List zah→Prop}{a:Tmp}{t:TypeId}{t2:Tmp}{ad:Addr}{v v2:Value}(h1:env.lookup a=some (.pointer (some ad)))(hl:Ld P W h t ad v)(h2:env.lookup t2=some v2)(hr:R (.tuple #[v,v2]) h):RetQ P W [.cell a t,.tmp t2] R .ret env h:=
 ⟨[v,v2],⟨⟨ad,h1,hl⟩,h2,trivial⟩,hr⟩
theorem zdD {v u:Value}{k:List zah}{J:List zah}{t:Tmp}(h1:env.lookup t=some v)(he:v=u)(hp:h.Perm (J++k)):RetQ P W [.tmp t] (fun x k'=>x=u∧∃J,k'.Perm (J++k)) .ret env h:=ret1 h1 ⟨he,J,hp⟩
end
end Go.Sl
set_option linter.unusedSimpArgs false
set_option linter.unusedVariables false
namespace Go.Sl
open Go Go.RowKit
section
variable {P : Program} {W : World} {T : Tab} {N : Nat} {env env' : Env} {h h' h2 : List zah} {kf : KF} {ops : Array Oper} {K : Env → List zah → Prop} {o : Oper} {rest : List Oper}
theorem zg5 {b:Bool}{e f:Int}{k:IntKind}{d:Tmp}{t yt:TypeId}{x y:Operand}{ty pos af g}(hg:zba ops env g=some b)(hb:b=true)(hd:Nat.blt d N=true)(hx:zaR env x=some (.int k e))(hy:zaR env y=some (.int k f))(he:0≤e)(hf:0<f)
 (hK:ES P W N kf ops rest ((d,.int k (e%f))::env) h K):ES P W N kf ops (⟨some d,.binOp .rem t x y yt,ty,pos,af,g⟩::rest) env h K:=
 zbO hg hb hd (fun a ha w=>by
  have h1:f≠0:=by omega
  simp[execOp,ha.eval hx,ha.eval hy,eqGuard,binOp,Op.intDiv,h1,Int.tmod_eq_emod_of_nonneg he]) hK
/-! ### structs that are compared -/
end
/-- one element of a row turned -/
theorem zeL {α:Type}{enc:α→List Value}{k:Nat}(hk:∀x,(enc x).length=k):∀{l:List α} {i f:Nat} {x x':α} {vs:List Value},l[i]? =some x→f+vs.length≤k→enc x'=lay (enc x) f vs→lay (l.flatMap enc) (i*k+f) vs=(l.set i x').flatMap enc
 |[],i,f,x,x',vs,h,_,_=>by simp at h
 |y::l,0,f,x,x',vs,h,hf,he=>by
  simp at h;subst h
  simp only[List.set_cons_zero,List.flatMap_cons,he,lay,Nat.zero_mul,Nat.zero_add]
  rw[List.take_append_of_le_length (by rw[hk];omega),List.drop_append_of_le_length (by rw[hk];omega)]
  simp
 |y::l,i+1,f,x,x',vs,h,hf,he=>by
  have ih:=zeL hk (l:=l) (i:=i) (f:=f) (x':=x') (vs:=vs) (by simpa using h) hf he
  simp only[List.set_cons_succ,List.flatMap_cons,←ih,lay]
  have e:(i+1)*k+f=(enc y).length+(i*k+f):=by rw[hk,Nat.succ_mul];omega
  rw[e,List.take_length_add_append,show(enc y).length+(i*k+f)+vs.length=(enc y).length+(i*k+f+vs.length)by omega,List.drop_length_add_append]
  simp
/-- what a row that is owned is -/
structure OwnF (A:Option Addr)(n c k:Nat)(cs:List Value):Prop where
 len:cs.length=n*k
 nc:n≤c
 cc:c≤9223372036854775807
 some_:0<n→A.isSome=true
 at_:0<n→∃g,A=some ⟨g,0,none⟩
 none_:A=none→c=0
 one:∀v∈cs,v.oneCell'=true
theorem Rep.ownF {W w:World}{h:List zah}(hw:Rep W h w){A:Option Addr}{n cc k:Nat}{e:TypeId}{cs:List Value}(hm:zah.own A n cc e k cs∈h):OwnF A n cc k cs:=by
 have ho:=hw.holds _ hm
 have hat:0<n→∃g,A=some ⟨g,0,none⟩:=by
  intro h0
  rcases ho.1.2 with ⟨hv,hn⟩|⟨g',cap,cur,hv,_⟩
  ·omega
  ·injection hv with hA _ _;exact⟨g',hA⟩
 refine⟨ho.1.1,?_,?_,fun h0=>by obtain⟨g,hg⟩:=hat h0;rw[hg];rfl,hat,?_,ho.2⟩
 ·rcases ho.1.2 with ⟨hv,hn⟩|⟨g',cap,cur,hv,hb,hg,hnc,_⟩<;>injection hv<;>omega
 ·rcases ho.1.2 with ⟨hv,hn⟩|⟨g',cap,cur,hv,hb,hg,hnc,hcm,_⟩<;>injection hv with _ _ hcc
  ·omega
  ·simp only[maxLen]at hcm;omega
 ·intro hA
  rcases ho.1.2 with ⟨hv,hn⟩|⟨g',cap,cur,hv,_⟩
  ·injection hv
  ·injection hv with hA' _ _;rw[hA]at hA';cases hA'
theorem OwnF.reads {W:World}{h:List zah}{A n c k cs}{t:TypeId}(ho:OwnF A n c k cs)(hm:zah.own A n c t k cs∈h):zaE W h A n k cs:=zaE.own hm ho.len ho.one
theorem zeM {h J k:List zah}(hd:zaL h k):zaL (J++h) k:=let ⟨J2,p⟩:=hd;⟨J++J2,by rw[List.append_assoc];exact p.append_left J⟩
theorem zeN {h F B:List zah}{c:zah}(hd:zaL h (c::(F++B))):zaL h (F++c::B):=let ⟨J,p⟩:=hd;⟨J,p.trans (List.perm_middle.symm.append_left J)⟩
theorem zaI.dropF {P:Program}{W:World}{f:FuncId}{args:List Value}{h:List zah}{R:Value→List zah→Prop}(hs:zaI P W f args h fun v h'=>∃k,zaL h' k∧∀w,Rep W k w→R v k):zaI P W f args h R:=
 zaI.conv hs fun _ _ ⟨k,hd,hr⟩ w hw=>⟨k,hd.rep hw,hr w (hd.rep hw)⟩
theorem zaO {α:Type}{E:α→Env}{H:α→List zah}{μ:α→Nat}{S:α→Prop}{x:α}{Q:Exit→Env→List zah→Prop}{env:Env}{h:List zah}(y:α)(h1:μ y<μ x)(h2:S y)(h3:Sub env (E y))(h4:zaL h (H y)):zgL E H μ S x Q .normal env h:=
 let ⟨J,p⟩:=h4;⟨y,J,h1,h2,h3,p⟩
theorem zdE {h k:List zah}(hp:h.Perm k):zaL h k:=⟨[],hp⟩
end Go.Sl
set_option linter.unusedSimpArgs false
set_option linter.unusedVariables false
namespace Go.Sl
open Go Go.RowKit
variable {P : Program} {W : World} {N : Nat} {T : Tab} {env : Env} {h : List zah} {Q : Exit → Env → List zah → Prop} {kf : KF} {ops : Array Oper} {K : Env → List zah → Prop} {rest : List Oper}
theorem zbr {id:Nat}{ol:List Oper}(q al:List FuncId)(p:Plan)(hm:P.follows .mixedOrders=true)
 (hp:(Region.noSelect ol.toArray&&(p.len==ol.toArray.size&&(p.even&&Plan.ok (kdOf (kfD q al) ol.toArray) ol.toArray (Region.before ol.toArray) false p (Array.replicate ol.toArray.size false))))=true)
 (hep:EP P W N (kfD q al) ol.toArray p env h fun env' h'=>Q .normal env' h'):AW P W N (.region id ol.toArray true) env h Q:=fun a w ha hw=>by
 exact zcL (W:=W) (kp:=(kfD q al).keep) (kd:=kdOf (kfD q al) ol.toArray) (Q:=fun a' h'=>∃env',Q .normal env' h'∧za3 N env' a') (fun a' h' w' hw' ⟨env',hq,ha'⟩=>⟨env',h',hq,ha',hw'⟩) hm hp hw (hep a ha)
theorem zcE (hT:zbc P T){b:Bool}{k:IntKind}{e:Int}{d:Tmp}{t yt:TypeId}{x y:Operand}{ty pos af g}(hg:zba ops env g=some b)(hb:b=true)(hd:Nat.blt d N=true)(hx:zaR env x=some (.int k e))(hy:zaR env y=some (.int k e))
 (hK:ES P W N kf ops rest ((d,.bool false)::env) h K):ES P W N kf ops (⟨some d,.binOp .neq t x y yt,ty,pos,af,g⟩::rest) env h K:=
 zaj hT hg hb hd (v:=.bool (e != e)) (by simp[zcD,hx,hy,cmpV]) (by rw[bne_self_eq_false];exact hK)
end Go.Sl
set_option linter.unusedSimpArgs false
set_option linter.unusedVariables false
namespace Go.Sl
open Go Go.RowKit
variable {P : Program} {W : World} {N : Nat} {T : Tab} {env : Env} {h : List zah} {Q : Exit → Env → List zah → Prop} {kf : KF} {ops : Array Oper} {K : Env → List zah → Prop} {rest : List Oper}
theorem za2 {α:Type}{c:Code}(E:α→Env)(H:α→List zah)(μ:α→Nat)(S:α→Prop)(x:α)(hs:S x)(he:Sub env (E x))(hp:zaL h (H x))
 (hc:∀x,S x→AW P W N c (E x) (H x) (zgL E H μ S x Q)):AW P W N (.loop c) env h Q:=
 let ⟨J,p⟩:=hp;zcc E H μ S x (J:=J) hs he p hc
end Go.Sl
set_option linter.unusedSimpArgs false
set_option linter.unusedVariables false
namespace Go.Sl
open Go Go.RowKit
variable {P : Program} {W : World} {N : Nat} {T : Tab} {env : Env} {h : List zah} {Q : Exit → Env → List zah → Prop} {kf : KF} {ops : Array Oper} {K : Env → List zah → Prop} {rest : List Oper}
theorem zhq {h G F:List zah}{x:zah}(h1:h.Perm (x::G))(h2:G.Perm F):h.Perm (x::F):=h1.trans (h2.cons x)
/-! ### a struct built cell by cell -/
def layS (cs:List Value)(off:Nat)(v:Value):List Value:=match v with
 | .agg _=>lay cs off v.cells.toList
 | .tuple _=>lay cs off v.cells.toList
 |v=>cs.set off v
def zf6 (place:Nat→Option (Nat×Nat))(cells:List Value):List (Nat×Value)→Option (List Value)
 |[]=>some cells
 |(i,v)::rest=>match place i with
  |none=>none
  |some (off,size)=>if v.cells.size=size∧off+size≤cells.length then zf6 place (layS cells off v) rest else none
def zgB (T:Tab)(env:Env)(t:TypeId)(parts:List (Nat×Operand)):Option (List Value):=
 match T.lookup t with
 |some ⟨.struct fs,_,_,z⟩=>match zct T fs.toList,zch env parts with
  |some ps,some vs=>zf6 (fun i=>ps[i]?) z.cells.toList vs
  |_,_=>none
 |_=>none
theorem zfs {cs:List Value}{off:Nat}{v:Value}(h:off+1≤cs.length):lay cs off [v]=cs.set off v:=by
 unfold lay
 rw[List.set_eq_take_append_cons_drop,if_pos (by omega)]
 simp
theorem zgP {cs:List Value}{off:Nat}{v:Value}(h:off+v.cells.size≤cs.length):layS cs off v=lay cs off v.cells.toList:=by
 unfold layS
 split
 ·rfl
 ·rfl
 ·rename_i h1 h2
  have e:v.cells= #[v]:=by
   cases v<;>first|rfl|exact absurd rfl (h1 _)|exact absurd rfl (h2 _)
  rw[e]at h ⊢
  exact(zfs h).symm
theorem zeO (place:Nat→Option (Nat×Nat)):∀(parts:List (Nat×Value)) (cells:List Value),zf6 place cells parts=zdA place cells parts
 |[],cells=>rfl
 |(i,v)::rest,cells=>by
  unfold zf6 zdA
  cases hp:place i with
  |none=>rfl
  |some q=>
   obtain⟨off,size⟩:=q
   dsimp only
   split
   ·rename_i hc
    rw[zgP (by rw[hc.1];exact hc.2),zeO place rest]
   ·rfl
theorem zaS (hT:zbc P T){b:Bool}{d:Tmp}{ty pos af g}{t:TypeId}{parts:Array (Nat×Operand)}{cs:List Value}(hg:zba ops env g=some b)(hb:b=true)(hd:Nat.blt d N=true)
 (hv:zgB T env t parts.toList=some cs)
 (hK:ES P W N kf ops rest ((d,.agg cs.toArray)::env) h K):ES P W N kf ops (⟨some d,.build t parts,ty,pos,af,g⟩::rest) env h K:=by
 refine zbI hT hg hb hd ?_ hK
 unfold zgB at hv
 unfold zfp
 split at hv
 ·split at hv
  ·rename_i h0 _ _ _ _ h1 h2
   simp only[h0,h1,h2]
   rw[←zeO];exact hv
  ·cases hv
 ·cases hv
end Go.Sl
set_option linter.unusedSimpArgs false
set_option linter.unusedVariables false
namespace Go.Sl
open Go Go.RowKit
variable {P : Program} {W : World} {T : Tab} {N : Nat} {env : Env} {h h' : List zah} {kf : KF} {ops : Array Oper} {K : Env → List zah → Prop} {o : Oper} {rest : List Oper}
theorem zf7 (z:Value)(n:Nat):madeCells #[z] n=(List.replicate n z).toArray:=by
 apply Array.ext
 ·simp[size_madeCells]
 ·intro i h1 h2
  simp[madeCells,Nat.mod_one]
theorem zbj (hT:zbc P T){b:Bool}{d:Tmp}{ty pos af g}{t e:TypeId}{ti te:TI}{x y:Operand}{n:Nat}{m:Int}{kl kc:IntKind}{z:Value}(hg:zba ops env g=some b)(hb:b=true)(hd:Nat.blt d N=true)(hk:(kf ⟨some d,.makeSlice t x y,ty,pos,af,g⟩).al=true)
 (ht:T.lookup t=some ti) (htd:ti.desc=.slice e) (hte:T.lookup e=some te) (hs:te.size=1) (hz:te.zero.cells= #[z]) (hz1:z.oneCell'=true) (hx:zaR env x=some (.int kl m)) (hy:zaR env y=some (.int kc m)) (hm:m=n) (hn:n≤1000000) (hby:te.bytes≤1000)
 (hK:∀g',ES P W N kf ops rest ((d,.slice (some ⟨g',0,none⟩) n n)::env) (.own (some ⟨g',0,none⟩) n n e 1 (List.replicate n z)::h) K):ES P W N kf ops (⟨some d,.makeSlice t x y,ty,pos,af,g⟩::rest) env h K:=fun a ha=>by
 subst hb hm
 refine zbn (it:=zaX kf ops ⟨some d,.makeSlice t x y,ty,pos,af,g⟩) (zaZ ha hg) (zfm hk) (fun w hw=> ?_)
 have g1:=(hT _ _ ht).1
 rw[htd]at g1
 obtain⟨_,i,hi,h1,h2,h3⟩:=hT _ _ hte
 have hb2:(i.bytes:Int)*(n:Int)≤281474976710656:=by
  have:i.bytes*n≤1000*1000000:=Nat.mul_le_mul (by omega) hn
  have:((i.bytes*n:Nat):Int)≤281474976710656:=by omega
  rwa[Int.natCast_mul]at this
 have hr:=run_makeSlice (P:=P) w t e i te.zero g1 hi h3 kl kc (n:Int) (n:Int) (by omega) (Int.le_refl _) (by rw[h1,hs];simp;omega) hb2 (by omega)
 rw[hz,h1,hs,Nat.mul_one,Int.toNat_natCast,zf7]at hr
 have hrun:(execOp a.eval ⟨some d,.makeSlice t x y,ty,pos,af,g⟩).run P w=.ok (.value (.slice (some ⟨w.heap.size,0,none⟩) n n)) (w.alloc (.cells (List.replicate n z).toArray e)):=by
  simp only[execOp,ha.eval hx,ha.eval hy,Sem.run_bind,hr,Result.andThen_ok,Sem.run_pure]
 unfold Oper.wp
 show Oper.upon P _ a _ _ ((execOp a.eval ⟨some d,.makeSlice t x y,ty,pos,af,g⟩).run P w)
 rw[hrun]
 refine⟨[.own (some ⟨w.heap.size,0,none⟩) n n e 1 (List.replicate n z)],?_,hK w.heap.size _ (ha.put (d:=some d) hd)⟩
 exact hw.alloc_own e n 1 (List.replicate n z) (by simp) (by simp[maxLen];omega) (fun v hv=>by rw[(List.mem_replicate.1 hv).2];exact hz1)
/-! ### rows of rows in memory -/
theorem zft {c:zah}{X F G:List zah}(hp:F.Perm (c::G)):(X++F).Perm (c::(X++G)):=(hp.append_left X).trans List.perm_middle
theorem zgQ {X F G:List zah}(hd:zaL F G):zaL (X++F) (X++G):=by
 obtain⟨J,p⟩:=hd
 refine⟨J,(p.append_left X).trans ?_⟩
 rw[←List.append_assoc,←List.append_assoc]
 exact(List.perm_append_comm).append_right G
end Go.Sl
namespace Go.Proofs.YteocfhdocpeokaaGreat
open Go Go.Sl
def ti2 :TI:=⟨.int .i64,1,8,.int .i64 0⟩
def ti3 :TI:=⟨.int .i64,1,8,.int .i64 0⟩
def ti4 :TI:=⟨.bool,1,1,.bool false⟩
def ti5 :TI:=⟨.int .u8,1,1,.int .u8 0⟩
def ti6 :TI:=⟨.int .u8,1,1,.int .u8 0⟩
def ti7 : TI := ⟨.struct #[⟨"x", 2, 0, false, "", "runtime", 0⟩, ⟨"y", 3, 1, false, "", "runtime", 8⟩, ⟨"signed", 4, 2, false, "", "runtime", 16⟩, ⟨"code", 6, 3, false, "", "runtime", 17⟩], 4, 24, .agg #[.int .i64 0, .int .i64 0, .bool false, .int .u8 0]⟩
def ti8 : TI := ⟨.struct #[⟨"x", 2, 0, false, "", "runtime", 0⟩, ⟨"y", 3, 1, false, "", "runtime", 8⟩, ⟨"signed", 4, 2, false, "", "runtime", 16⟩, ⟨"code", 6, 3, false, "", "runtime", 17⟩], 4, 24, .agg #[.int .i64 0, .int .i64 0, .bool false, .int .u8 0]⟩
def ti9 :TI:=⟨.string,1,16,.string ⟨#[]⟩⟩
def ti10 :TI:=⟨.string,1,16,.string ⟨#[]⟩⟩
def ti11 :TI:=⟨.string,1,16,.string ⟨#[]⟩⟩
def ti12 :TI:=⟨.int .u64,1,8,.int .u64 0⟩
def ti13 : TI := ⟨.struct #[⟨"msg", 9, 0, false, "", "runtime", 0⟩, ⟨"addr", 12, 1, false, "", "runtime", 16⟩], 2, 24, .agg #[.string ⟨#[]⟩, .int .u64 0]⟩
def ti14 : TI := ⟨.struct #[⟨"msg", 9, 0, false, "", "runtime", 0⟩, ⟨"addr", 12, 1, false, "", "runtime", 16⟩], 2, 24, .agg #[.string ⟨#[]⟩, .int .u64 0]⟩
def ti15 :TI:=⟨.pointer 315,1,8,.pointer none⟩
def ti16 :TI:=⟨.pointer 318,1,8,.pointer none⟩
def ti17 :TI:=⟨.pointer 326,1,8,.pointer none⟩
def ti18 : TI := ⟨.struct #[⟨"typ", 17, 0, false, "", "internal/runtime/maps", 0⟩], 1, 8, .agg #[.pointer none]⟩
def ti19 : TI := ⟨.struct #[⟨"typ", 17, 0, false, "", "internal/runtime/maps", 0⟩], 1, 8, .agg #[.pointer none]⟩
def ti21 :TI:=⟨.int .i32,1,4,.int .i32 0⟩
def ti22 :TI:=⟨.slice 30,1,24,.slice none 0 0⟩
def ti23 :TI:=⟨.pointer 69,1,8,.pointer none⟩
def ti25 :TI:=⟨.pointer 71,1,8,.pointer none⟩
def ti27 :TI:=⟨.int .i64,1,8,.int .i64 0⟩
def ti29 : TI := ⟨.struct #[⟨"ID", 2, 0, false, "", "", 0⟩, ⟨"Bond", 3, 1, false, "", "", 8⟩, ⟨"Buyer", 3, 2, false, "", "", 16⟩, ⟨"Seller", 3, 3, false, "", "", 24⟩, ⟨"Price", 2, 4, false, "", "", 32⟩, ⟨"Qty", 2, 5, false, "", "", 40⟩, ⟨"Ask", 2, 6, false, "", "", 48⟩, ⟨"Tick", 2, 7, false, "", "", 56⟩], 8, 64, .agg #[.int .i64 0, .int .i64 0, .int .i64 0, .int .i64 0, .int .i64 0, .int .i64 0, .int .i64 0, .int .i64 0]⟩
def ti30 : TI := ⟨.struct #[⟨"ID", 2, 0, false, "", "", 0⟩, ⟨"Bond", 3, 1, false, "", "", 8⟩, ⟨"Buyer", 3, 2, false, "", "", 16⟩, ⟨"Seller", 3, 3, false, "", "", 24⟩, ⟨"Price", 2, 4, false, "", "", 32⟩, ⟨"Qty", 2, 5, false, "", "", 40⟩, ⟨"Ask", 2, 6, false, "", "", 48⟩, ⟨"Tick", 2, 7, false, "", "", 56⟩], 8, 64, .agg #[.int .i64 0, .int .i64 0, .int .i64 0, .int .i64 0, .int .i64 0, .int .i64 0, .int .i64 0, .int .i64 0]⟩
def ti36 :TI:=⟨.slice 39,1,24,.slice none 0 0⟩
def ti37 :TI:=⟨.slice 44,1,24,.slice none 0 0⟩
def ti39 :TI:=⟨.slice 42,1,24,.slice none 0 0⟩
def ti40 :TI:=⟨.array 6 2,6,48,.agg #[.int .i64 0,.int .i64 0,.int .i64 0,.int .i64 0,.int .i64 0,.int .i64 0]⟩
def ti41 : TI := ⟨.struct #[⟨"Kind", 3, 0, false, "", "", 0⟩, ⟨"F", 40, 1, false, "", "", 8⟩], 7, 56, .agg #[.int .i64 0, .int .i64 0, .int .i64 0, .int .i64 0, .int .i64 0, .int .i64 0, .int .i64 0]⟩
def ti42 : TI := ⟨.struct #[⟨"Kind", 3, 0, false, "", "", 0⟩, ⟨"F", 40, 1, false, "", "", 8⟩], 7, 56, .agg #[.int .i64 0, .int .i64 0, .int .i64 0, .int .i64 0, .int .i64 0, .int .i64 0, .int .i64 0]⟩
def ti43 : TI := ⟨.struct #[⟨"To", 3, 0, false, "", "", 0⟩, ⟨"Msg", 42, 1, false, "", "", 8⟩], 8, 64, .agg #[.int .i64 0, .int .i64 0, .int .i64 0, .int .i64 0, .int .i64 0, .int .i64 0, .int .i64 0, .int .i64 0]⟩
def ti44 : TI := ⟨.struct #[⟨"To", 3, 0, false, "", "", 0⟩, ⟨"Msg", 42, 1, false, "", "", 8⟩], 8, 64, .agg #[.int .i64 0, .int .i64 0, .int .i64 0, .int .i64 0, .int .i64 0, .int .i64 0, .int .i64 0, .int .i64 0]⟩
def ti46 :TI:=⟨.slice 73,1,24,.slice none 0 0⟩
def ti49 :TI:=⟨.slice 59,1,24,.slice none 0 0⟩
def ti50 :TI:=⟨.slice 95,1,24,.slice none 0 0⟩
def ti51 :TI:=⟨.slice 97,1,24,.slice none 0 0⟩
def ti52 : TI := ⟨.struct #[⟨"Bonds", 50, 0, false, "", "", 0⟩, ⟨"Parties", 51, 1, false, "", "", 24⟩, ⟨"Look", 2, 2, false, "", "", 48⟩, ⟨"Beat", 2, 3, false, "", "", 56⟩], 4, 64, .agg #[.slice none 0 0, .slice none 0 0, .int .i64 0, .int .i64 0]⟩
def ti53 : TI := ⟨.struct #[⟨"Bonds", 50, 0, false, "", "", 0⟩, ⟨"Parties", 51, 1, false, "", "", 24⟩, ⟨"Look", 2, 2, false, "", "", 48⟩, ⟨"Beat", 2, 3, false, "", "", 56⟩], 4, 64, .agg #[.slice none 0 0, .slice none 0 0, .int .i64 0, .int .i64 0]⟩
def ti55 :TI:=⟨.pointer 112,1,8,.pointer none⟩
def ti58 : TI := ⟨.struct #[⟨"Kind", 3, 0, false, "", "", 0⟩, ⟨"Who", 3, 1, false, "", "", 8⟩, ⟨"N", 2, 2, false, "", "", 16⟩, ⟨"Msg", 42, 3, false, "", "", 24⟩], 10, 80, .agg #[.int .i64 0, .int .i64 0, .int .i64 0, .int .i64 0, .int .i64 0, .int .i64 0, .int .i64 0, .int .i64 0, .int .i64 0, .int .i64 0]⟩
def ti59 : TI := ⟨.struct #[⟨"Kind", 3, 0, false, "", "", 0⟩, ⟨"Who", 3, 1, false, "", "", 8⟩, ⟨"N", 2, 2, false, "", "", 16⟩, ⟨"Msg", 42, 3, false, "", "", 24⟩], 10, 80, .agg #[.int .i64 0, .int .i64 0, .int .i64 0, .int .i64 0, .int .i64 0, .int .i64 0, .int .i64 0, .int .i64 0, .int .i64 0, .int .i64 0]⟩
def ti62 :TI:=⟨.slice 87,1,24,.slice none 0 0⟩
def ti66 :TI:=⟨.slice 2,1,24,.slice none 0 0⟩
def ti67 :TI:=⟨.slice 66,1,24,.slice none 0 0⟩
def ti68 : TI := ⟨.struct #[⟨"bonds", 67, 0, false, "", "consols/pos", 0⟩, ⟨"cash", 66, 1, false, "", "consols/pos", 24⟩], 2, 48, .agg #[.slice none 0 0, .slice none 0 0]⟩
def ti69 : TI := ⟨.struct #[⟨"bonds", 67, 0, false, "", "consols/pos", 0⟩, ⟨"cash", 66, 1, false, "", "consols/pos", 24⟩], 2, 48, .agg #[.slice none 0 0, .slice none 0 0]⟩
def ti70 : TI := ⟨.struct #[⟨"B", 67, 0, false, "", "", 0⟩, ⟨"C", 66, 1, false, "", "", 24⟩], 2, 48, .agg #[.slice none 0 0, .slice none 0 0]⟩
def ti71 : TI := ⟨.struct #[⟨"B", 67, 0, false, "", "", 0⟩, ⟨"C", 66, 1, false, "", "", 24⟩], 2, 48, .agg #[.slice none 0 0, .slice none 0 0]⟩
def ti73 :TI:=⟨.int .u64,1,8,.int .u64 0⟩
def ti74 : TI := ⟨.struct #[⟨"Hi", 73, 0, false, "", "", 0⟩, ⟨"Lo", 73, 1, false, "", "", 8⟩], 2, 16, .agg #[.int .u64 0, .int .u64 0]⟩
def ti75 : TI := ⟨.struct #[⟨"Hi", 73, 0, false, "", "", 0⟩, ⟨"Lo", 73, 1, false, "", "", 8⟩], 2, 16, .agg #[.int .u64 0, .int .u64 0]⟩
def ti86 : TI := ⟨.struct #[⟨"ID", 2, 0, false, "", "", 0⟩, ⟨"Client", 3, 1, false, "", "", 8⟩, ⟨"Bond", 3, 2, false, "", "", 16⟩, ⟨"Side", 3, 3, false, "", "", 24⟩, ⟨"Qty", 2, 4, false, "", "", 32⟩, ⟨"Dealers", 73, 5, false, "", "", 40⟩, ⟨"Ends", 2, 6, false, "", "", 48⟩, ⟨"Until", 2, 7, false, "", "", 56⟩, ⟨"State", 3, 8, false, "", "", 64⟩, ⟨"Hit", 2, 9, false, "", "", 72⟩], 10, 80, .agg #[.int .i64 0, .int .i64 0, .int .i64 0, .int .i64 0, .int .i64 0, .int .u64 0, .int .i64 0, .int .i64 0, .int .i64 0, .int .i64 0]⟩
def ti87 : TI := ⟨.struct #[⟨"ID", 2, 0, false, "", "", 0⟩, ⟨"Client", 3, 1, false, "", "", 8⟩, ⟨"Bond", 3, 2, false, "", "", 16⟩, ⟨"Side", 3, 3, false, "", "", 24⟩, ⟨"Qty", 2, 4, false, "", "", 32⟩, ⟨"Dealers", 73, 5, false, "", "", 40⟩, ⟨"Ends", 2, 6, false, "", "", 48⟩, ⟨"Until", 2, 7, false, "", "", 56⟩, ⟨"State", 3, 8, false, "", "", 64⟩, ⟨"Hit", 2, 9, false, "", "", 72⟩], 10, 80, .agg #[.int .i64 0, .int .i64 0, .int .i64 0, .int .i64 0, .int .i64 0, .int .u64 0, .int .i64 0, .int .i64 0, .int .i64 0, .int .i64 0]⟩
def ti92 :TI:=⟨.slice 5,1,24,.slice none 0 0⟩
def ti94 : TI := ⟨.struct #[⟨"Tick", 2, 0, false, "", "", 0⟩, ⟨"Lot", 2, 1, false, "", "", 8⟩, ⟨"Min", 2, 2, false, "", "", 16⟩, ⟨"Max", 2, 3, false, "", "", 24⟩, ⟨"Low", 2, 4, false, "", "", 32⟩, ⟨"High", 2, 5, false, "", "", 40⟩, ⟨"Halted", 4, 6, false, "", "", 48⟩], 7, 56, .agg #[.int .i64 0, .int .i64 0, .int .i64 0, .int .i64 0, .int .i64 0, .int .i64 0, .bool false]⟩
def ti95 : TI := ⟨.struct #[⟨"Tick", 2, 0, false, "", "", 0⟩, ⟨"Lot", 2, 1, false, "", "", 8⟩, ⟨"Min", 2, 2, false, "", "", 16⟩, ⟨"Max", 2, 3, false, "", "", 24⟩, ⟨"Low", 2, 4, false, "", "", 32⟩, ⟨"High", 2, 5, false, "", "", 40⟩, ⟨"Halted", 4, 6, false, "", "", 48⟩], 7, 56, .agg #[.int .i64 0, .int .i64 0, .int .i64 0, .int .i64 0, .int .i64 0, .int .i64 0, .bool false]⟩
def ti96 : TI := ⟨.struct #[⟨"Role", 3, 0, false, "", "", 0⟩, ⟨"Asks", 73, 1, false, "", "", 8⟩, ⟨"Cap", 2, 2, false, "", "", 16⟩], 3, 24, .agg #[.int .i64 0, .int .u64 0, .int .i64 0]⟩
def ti97 : TI := ⟨.struct #[⟨"Role", 3, 0, false, "", "", 0⟩, ⟨"Asks", 73, 1, false, "", "", 8⟩, ⟨"Cap", 2, 2, false, "", "", 16⟩], 3, 24, .agg #[.int .i64 0, .int .u64 0, .int .i64 0]⟩
def ti98 :TI:=⟨.pointer 139,1,8,.pointer none⟩
def ti102 :TI:=⟨.pointer 142,1,8,.pointer none⟩
def ti104 :TI:=⟨.pointer 144,1,8,.pointer none⟩
def ti106 :TI:=⟨.pointer 147,1,8,.pointer none⟩
def ti108 :TI:=⟨.pointer 149,1,8,.pointer none⟩
def ti110 :TI:=⟨.slice 113,1,24,.slice none 0 0⟩
def ti111 : TI := ⟨.struct #[⟨"rules", 53, 0, false, "", "consols/desk", 0⟩, ⟨"now", 2, 4, false, "", "consols/desk", 64⟩, ⟨"books", 110, 5, false, "", "consols/desk", 72⟩, ⟨"firm", 98, 6, false, "", "consols/desk", 96⟩, ⟨"quotes", 102, 7, false, "", "consols/desk", 104⟩, ⟨"asks", 104, 8, false, "", "consols/desk", 112⟩, ⟨"due", 106, 9, false, "", "consols/desk", 120⟩, ⟨"pos", 23, 10, false, "", "consols/desk", 128⟩, ⟨"blot", 108, 11, false, "", "consols/desk", 136⟩, ⟨"order", 2, 12, false, "", "consols/desk", 144⟩, ⟨"seq", 2, 13, false, "", "consols/desk", 152⟩, ⟨"quote", 2, 14, false, "", "consols/desk", 160⟩, ⟨"ask", 2, 15, false, "", "consols/desk", 168⟩], 16, 176, .agg #[.slice none 0 0, .slice none 0 0, .int .i64 0, .int .i64 0, .int .i64 0, .slice none 0 0, .pointer none, .pointer none, .pointer none, .pointer none, .pointer none, .pointer none, .int .i64 0, .int .i64 0, .int .i64 0, .int .i64 0]⟩
def ti112 : TI := ⟨.struct #[⟨"rules", 53, 0, false, "", "consols/desk", 0⟩, ⟨"now", 2, 4, false, "", "consols/desk", 64⟩, ⟨"books", 110, 5, false, "", "consols/desk", 72⟩, ⟨"firm", 98, 6, false, "", "consols/desk", 96⟩, ⟨"quotes", 102, 7, false, "", "consols/desk", 104⟩, ⟨"asks", 104, 8, false, "", "consols/desk", 112⟩, ⟨"due", 106, 9, false, "", "consols/desk", 120⟩, ⟨"pos", 23, 10, false, "", "consols/desk", 128⟩, ⟨"blot", 108, 11, false, "", "consols/desk", 136⟩, ⟨"order", 2, 12, false, "", "consols/desk", 144⟩, ⟨"seq", 2, 13, false, "", "consols/desk", 152⟩, ⟨"quote", 2, 14, false, "", "consols/desk", 160⟩, ⟨"ask", 2, 15, false, "", "consols/desk", 168⟩], 16, 176, .agg #[.slice none 0 0, .slice none 0 0, .int .i64 0, .int .i64 0, .int .i64 0, .slice none 0 0, .pointer none, .pointer none, .pointer none, .pointer none, .pointer none, .pointer none, .int .i64 0, .int .i64 0, .int .i64 0, .int .i64 0]⟩
def ti113 :TI:=⟨.pointer 152,1,8,.pointer none⟩
def ti123 :TI:=⟨.map 2 4,1,8,.map none⟩
def ti130 :TI:=⟨.int .u64,1,8,.int .u64 0⟩
def ti131 :TI:=⟨.slice 134,1,24,.slice none 0 0⟩
def ti133 : TI := ⟨.struct #[⟨"Price", 2, 0, false, "", "", 0⟩, ⟨"Qty", 2, 1, false, "", "", 8⟩], 2, 16, .agg #[.int .i64 0, .int .i64 0]⟩
def ti134 : TI := ⟨.struct #[⟨"Price", 2, 0, false, "", "", 0⟩, ⟨"Qty", 2, 1, false, "", "", 8⟩], 2, 16, .agg #[.int .i64 0, .int .i64 0]⟩
def ti138 : TI := ⟨.struct #[⟨"l", 51, 0, false, "", "consols/firm", 0⟩, ⟨"used", 66, 1, false, "", "consols/firm", 24⟩], 2, 48, .agg #[.slice none 0 0, .slice none 0 0]⟩
def ti139 : TI := ⟨.struct #[⟨"l", 51, 0, false, "", "consols/firm", 0⟩, ⟨"used", 66, 1, false, "", "consols/firm", 24⟩], 2, 48, .agg #[.slice none 0 0, .slice none 0 0]⟩
def ti140 :TI:=⟨.slice 174,1,24,.slice none 0 0⟩
def ti141 : TI := ⟨.struct #[⟨"l", 140, 0, false, "", "consols/quote", 0⟩], 1, 24, .agg #[.slice none 0 0]⟩
def ti142 : TI := ⟨.struct #[⟨"l", 140, 0, false, "", "consols/quote", 0⟩], 1, 24, .agg #[.slice none 0 0]⟩
def ti143 : TI := ⟨.struct #[⟨"l", 62, 0, false, "", "consols/ask", 0⟩], 1, 24, .agg #[.slice none 0 0]⟩
def ti144 : TI := ⟨.struct #[⟨"l", 62, 0, false, "", "consols/ask", 0⟩], 1, 24, .agg #[.slice none 0 0]⟩
def ti145 :TI:=⟨.slice 160,1,24,.slice none 0 0⟩
def ti146 : TI := ⟨.struct #[⟨"l", 145, 0, false, "", "consols/due", 0⟩], 1, 24, .agg #[.slice none 0 0]⟩
def ti147 : TI := ⟨.struct #[⟨"l", 145, 0, false, "", "consols/due", 0⟩], 1, 24, .agg #[.slice none 0 0]⟩
def ti148 : TI := ⟨.struct #[⟨"l", 22, 0, false, "", "consols/blot", 0⟩, ⟨"head", 73, 1, false, "", "consols/blot", 24⟩], 2, 32, .agg #[.slice none 0 0, .int .u64 0]⟩
def ti149 : TI := ⟨.struct #[⟨"l", 22, 0, false, "", "consols/blot", 0⟩, ⟨"head", 73, 1, false, "", "consols/blot", 24⟩], 2, 32, .agg #[.slice none 0 0, .int .u64 0]⟩
def ti150 :TI:=⟨.slice 168,1,24,.slice none 0 0⟩
def ti151 : TI := ⟨.struct #[⟨"l", 150, 0, false, "", "consols/book", 0⟩], 1, 24, .agg #[.slice none 0 0]⟩
def ti152 : TI := ⟨.struct #[⟨"l", 150, 0, false, "", "consols/book", 0⟩], 1, 24, .agg #[.slice none 0 0]⟩
def ti153 :TI:=⟨.pointer 155,1,8,.pointer none⟩
def ti154 : TI := ⟨.struct #[⟨"who", 3, 0, false, "", "consols/desk", 0⟩, ⟨"id", 2, 1, false, "", "consols/desk", 8⟩, ⟨"l", 37, 2, false, "", "consols/desk", 16⟩], 3, 40, .agg #[.int .i64 0, .int .i64 0, .slice none 0 0]⟩
def ti155 : TI := ⟨.struct #[⟨"who", 3, 0, false, "", "consols/desk", 0⟩, ⟨"id", 2, 1, false, "", "consols/desk", 8⟩, ⟨"l", 37, 2, false, "", "consols/desk", 16⟩], 3, 40, .agg #[.int .i64 0, .int .i64 0, .slice none 0 0]⟩
def ti159 : TI := ⟨.struct #[⟨"Tick", 2, 0, false, "", "", 0⟩, ⟨"Kind", 3, 1, false, "", "", 8⟩, ⟨"ID", 2, 2, false, "", "", 16⟩], 3, 24, .agg #[.int .i64 0, .int .i64 0, .int .i64 0]⟩
def ti160 : TI := ⟨.struct #[⟨"Tick", 2, 0, false, "", "", 0⟩, ⟨"Kind", 3, 1, false, "", "", 8⟩, ⟨"ID", 2, 2, false, "", "", 16⟩], 3, 24, .agg #[.int .i64 0, .int .i64 0, .int .i64 0]⟩
def ti165 :TI:=⟨.slice 3,1,24,.slice none 0 0⟩
def ti167 : TI := ⟨.struct #[⟨"ID", 2, 0, false, "", "", 0⟩, ⟨"Seq", 2, 1, false, "", "", 8⟩, ⟨"Owner", 3, 2, false, "", "", 16⟩, ⟨"Side", 3, 3, false, "", "", 24⟩, ⟨"Price", 2, 4, false, "", "", 32⟩, ⟨"Left", 2, 5, false, "", "", 40⟩], 6, 48, .agg #[.int .i64 0, .int .i64 0, .int .i64 0, .int .i64 0, .int .i64 0, .int .i64 0]⟩
def ti168 : TI := ⟨.struct #[⟨"ID", 2, 0, false, "", "", 0⟩, ⟨"Seq", 2, 1, false, "", "", 8⟩, ⟨"Owner", 3, 2, false, "", "", 16⟩, ⟨"Side", 3, 3, false, "", "", 24⟩, ⟨"Price", 2, 4, false, "", "", 32⟩, ⟨"Left", 2, 5, false, "", "", 40⟩], 6, 48, .agg #[.int .i64 0, .int .i64 0, .int .i64 0, .int .i64 0, .int .i64 0, .int .i64 0]⟩
def ti173 : TI := ⟨.struct #[⟨"ID", 2, 0, false, "", "", 0⟩, ⟨"Ask", 2, 1, false, "", "", 8⟩, ⟨"Dealer", 3, 2, false, "", "", 16⟩, ⟨"Price", 2, 3, false, "", "", 24⟩, ⟨"Expires", 2, 4, false, "", "", 32⟩, ⟨"Live", 4, 5, false, "", "", 40⟩], 6, 48, .agg #[.int .i64 0, .int .i64 0, .int .i64 0, .int .i64 0, .int .i64 0, .bool false]⟩
def ti174 : TI := ⟨.struct #[⟨"ID", 2, 0, false, "", "", 0⟩, ⟨"Ask", 2, 1, false, "", "", 8⟩, ⟨"Dealer", 3, 2, false, "", "", 16⟩, ⟨"Price", 2, 3, false, "", "", 24⟩, ⟨"Expires", 2, 4, false, "", "", 32⟩, ⟨"Live", 4, 5, false, "", "", 40⟩], 6, 48, .agg #[.int .i64 0, .int .i64 0, .int .i64 0, .int .i64 0, .int .i64 0, .bool false]⟩
def ti233 :TI:=⟨.pointer 87,1,8,.pointer none⟩
def ti247 :TI:=⟨.pointer 174,1,8,.pointer none⟩
def ti261 :TI:=⟨.int .i64,1,8,.int .i64 0⟩
def ti268 :TI:=⟨.int .u32,1,4,.int .u32 0⟩
def ti270 :TI:=⟨.slice 277,1,24,.slice none 0 0⟩
def ti271 :TI:=⟨.slice 275,1,24,.slice none 0 0⟩
def ti274 : TI := ⟨.struct #[⟨"ID", 2, 0, false, "", "", 0⟩, ⟨"Owner", 3, 1, false, "", "", 8⟩, ⟨"Left", 2, 2, false, "", "", 16⟩], 3, 24, .agg #[.int .i64 0, .int .i64 0, .int .i64 0]⟩
def ti275 : TI := ⟨.struct #[⟨"ID", 2, 0, false, "", "", 0⟩, ⟨"Owner", 3, 1, false, "", "", 8⟩, ⟨"Left", 2, 2, false, "", "", 16⟩], 3, 24, .agg #[.int .i64 0, .int .i64 0, .int .i64 0]⟩
def ti276 : TI := ⟨.struct #[⟨"Maker", 2, 0, false, "", "", 0⟩, ⟨"Taker", 2, 1, false, "", "", 8⟩, ⟨"MakerParty", 3, 2, false, "", "", 16⟩, ⟨"TakerParty", 3, 3, false, "", "", 24⟩, ⟨"Price", 2, 4, false, "", "", 32⟩, ⟨"Qty", 2, 5, false, "", "", 40⟩, ⟨"Left", 2, 6, false, "", "", 48⟩], 7, 56, .agg #[.int .i64 0, .int .i64 0, .int .i64 0, .int .i64 0, .int .i64 0, .int .i64 0, .int .i64 0]⟩
def ti277 : TI := ⟨.struct #[⟨"Maker", 2, 0, false, "", "", 0⟩, ⟨"Taker", 2, 1, false, "", "", 8⟩, ⟨"MakerParty", 3, 2, false, "", "", 16⟩, ⟨"TakerParty", 3, 3, false, "", "", 24⟩, ⟨"Price", 2, 4, false, "", "", 32⟩, ⟨"Qty", 2, 5, false, "", "", 40⟩, ⟨"Left", 2, 6, false, "", "", 48⟩], 7, 56, .agg #[.int .i64 0, .int .i64 0, .int .i64 0, .int .i64 0, .int .i64 0, .int .i64 0, .int .i64 0]⟩
def ti289 :TI:=⟨.int .u64,1,8,.int .u64 0⟩
def ti292 :TI:=⟨.pointer 3,1,8,.pointer none⟩
def ti297 :TI:=⟨.pointer 168,1,8,.pointer none⟩
def ti301 :TI:=⟨.pointer 289,1,8,.pointer none⟩
def ti314 : TI := ⟨.struct #[⟨"_interface", 17, 0, false, "", "runtime", 0⟩, ⟨"concrete", 17, 1, false, "", "runtime", 8⟩, ⟨"asserted", 17, 2, false, "", "runtime", 16⟩, ⟨"missingMethod", 9, 3, false, "", "runtime", 24⟩], 4, 40, .agg #[.pointer none, .pointer none, .pointer none, .string ⟨#[]⟩]⟩
def ti315 : TI := ⟨.struct #[⟨"_interface", 17, 0, false, "", "runtime", 0⟩, ⟨"concrete", 17, 1, false, "", "runtime", 8⟩, ⟨"asserted", 17, 2, false, "", "runtime", 16⟩, ⟨"missingMethod", 9, 3, false, "", "runtime", 24⟩], 4, 40, .agg #[.pointer none, .pointer none, .pointer none, .string ⟨#[]⟩]⟩
def ti319 :TI:=⟨.int .u8,1,1,.int .u8 0⟩
def ti320 :TI:=⟨.int .u8,1,1,.int .u8 0⟩
def ti322 :TI:=⟨.pointer 5,1,8,.pointer none⟩
def ti323 :TI:=⟨.int .i32,1,4,.int .i32 0⟩
def ti324 :TI:=⟨.int .i32,1,4,.int .i32 0⟩
def ti325 : TI := ⟨.struct #[⟨"Size_", 12, 0, false, "", "", 0⟩, ⟨"PtrBytes", 12, 1, false, "", "", 8⟩, ⟨"Hash", 268, 2, false, "", "", 16⟩, ⟨"TFlag", 319, 3, false, "", "", 20⟩, ⟨"Align_", 5, 4, false, "", "", 21⟩, ⟨"FieldAlign_", 5, 5, false, "", "", 22⟩, ⟨"Kind_", 320, 6, false, "", "", 23⟩, ⟨"Equal", 321, 7, false, "", "", 24⟩, ⟨"GCData", 322, 8, false, "", "", 32⟩, ⟨"Str", 323, 9, false, "", "", 40⟩, ⟨"PtrToThis", 324, 10, false, "", "", 44⟩], 11, 48, .agg #[.int .u64 0, .int .u64 0, .int .u32 0, .int .u8 0, .int .u8 0, .int .u8 0, .int .u8 0, .nilFunc, .pointer none, .int .i32 0, .int .i32 0]⟩
def ti326 : TI := ⟨.struct #[⟨"Size_", 12, 0, false, "", "", 0⟩, ⟨"PtrBytes", 12, 1, false, "", "", 8⟩, ⟨"Hash", 268, 2, false, "", "", 16⟩, ⟨"TFlag", 319, 3, false, "", "", 20⟩, ⟨"Align_", 5, 4, false, "", "", 21⟩, ⟨"FieldAlign_", 5, 5, false, "", "", 22⟩, ⟨"Kind_", 320, 6, false, "", "", 23⟩, ⟨"Equal", 321, 7, false, "", "", 24⟩, ⟨"GCData", 322, 8, false, "", "", 32⟩, ⟨"Str", 323, 9, false, "", "", 40⟩, ⟨"PtrToThis", 324, 10, false, "", "", 44⟩], 11, 48, .agg #[.int .u64 0, .int .u64 0, .int .u32 0, .int .u8 0, .int .u8 0, .int .u8 0, .int .u8 0, .nilFunc, .pointer none, .int .i32 0, .int .i32 0]⟩
def TT :Tab:=[(2,ti2),(3,ti3),(4,ti4),(5,ti5),(6,ti6),(7,ti7),(8,ti8),(9,ti9),(10,ti10),(11,ti11),(12,ti12),(13,ti13),(14,ti14),(15,ti15),(16,ti16),(17,ti17),(18,ti18),(19,ti19),(21,ti21),(22,ti22),(23,ti23),(25,ti25),(27,ti27),(29,ti29),(30,ti30),(36,ti36),(37,ti37),(39,ti39),(40,ti40),(41,ti41),(42,ti42),(43,ti43),(44,ti44),(46,ti46),(49,ti49),(50,ti50),(51,ti51),(52,ti52),(53,ti53),(55,ti55),(58,ti58),(59,ti59),(62,ti62),(66,ti66),(67,ti67),(68,ti68),(69,ti69),(70,ti70),(71,ti71),(73,ti73),(74,ti74),(75,ti75),(86,ti86),(87,ti87),(92,ti92),(94,ti94),(95,ti95),(96,ti96),(97,ti97),(98,ti98),(102,ti102),(104,ti104),(106,ti106),(108,ti108),(110,ti110),(111,ti111),(112,ti112),(113,ti113),(123,ti123),(130,ti130),(131,ti131),(133,ti133),(134,ti134),(138,ti138),(139,ti139),(140,ti140),(141,ti141),(142,ti142),(143,ti143),(144,ti144),(145,ti145),(146,ti146),(147,ti147),(148,ti148),(149,ti149),(150,ti150),(151,ti151),(152,ti152),(153,ti153),(154,ti154),(155,ti155),(159,ti159),(160,ti160),(165,ti165),(167,ti167),(168,ti168),(173,ti173),(174,ti174),(233,ti233),(247,ti247),(261,ti261),(268,ti268),(270,ti270),(271,ti271),(274,ti274),(275,ti275),(276,ti276),(277,ti277),(289,ti289),(292,ti292),(297,ti297),(301,ti301),(314,ti314),(315,ti315),(319,ti319),(320,ti320),(322,ti322),(323,ti323),(324,ti324),(325,ti325),(326,ti326)]
theorem tg2 :zaB Tryz.prog 2 ti2:=zaD Tryz.underlying2 (by kernel_rfl)
theorem tg3 :zaB Tryz.prog 3 ti3:=zaD Tryz.underlying3 (by kernel_rfl)
theorem tg4 :zaB Tryz.prog 4 ti4:=zaD Tryz.underlying4 (by kernel_rfl)
theorem tg5 :zaB Tryz.prog 5 ti5:=zaD Tryz.underlying5 (by kernel_rfl)
theorem tg6 :zaB Tryz.prog 6 ti6:=zaD Tryz.underlying6 (by kernel_rfl)
theorem tg7 :zaB Tryz.prog 7 ti7:=zaD Tryz.underlying7 (by kernel_rfl)
theorem tg8 :zaB Tryz.prog 8 ti8:=zaD Tryz.underlying8 (by kernel_rfl)
theorem tg9 :zaB Tryz.prog 9 ti9:=zaD Tryz.underlying9 (by kernel_rfl)
theorem tg10 :zaB Tryz.prog 10 ti10:=zaD Tryz.underlying10 (by kernel_rfl)
theorem tg11 :zaB Tryz.prog 11 ti11:=zaD Tryz.underlying11 (by kernel_rfl)
theorem tg12 :zaB Tryz.prog 12 ti12:=zaD Tryz.underlying12 (by kernel_rfl)
theorem tg13 :zaB Tryz.prog 13 ti13:=zaD Tryz.underlying13 (by kernel_rfl)
theorem tg14 :zaB Tryz.prog 14 ti14:=zaD Tryz.underlying14 (by kernel_rfl)
theorem tg15 :zaB Tryz.prog 15 ti15:=zaD Tryz.underlying15 (by kernel_rfl)
theorem tg16 :zaB Tryz.prog 16 ti16:=zaD Tryz.underlying16 (by kernel_rfl)
theorem tg17 :zaB Tryz.prog 17 ti17:=zaD Tryz.underlying17 (by kernel_rfl)
theorem tg18 :zaB Tryz.prog 18 ti18:=zaD Tryz.underlying18 (by kernel_rfl)
theorem tg19 :zaB Tryz.prog 19 ti19:=zaD Tryz.underlying19 (by kernel_rfl)
theorem tg21 :zaB Tryz.prog 21 ti21:=zaD Tryz.underlying21 (by kernel_rfl)
theorem tg22 :zaB Tryz.prog 22 ti22:=zaD Tryz.underlying22 (by kernel_rfl)
theorem tg23 :zaB Tryz.prog 23 ti23:=zaD Tryz.underlying23 (by kernel_rfl)
theorem tg25 :zaB Tryz.prog 25 ti25:=zaD Tryz.underlying25 (by kernel_rfl)
theorem tg27 :zaB Tryz.prog 27 ti27:=zaD Tryz.underlying27 (by kernel_rfl)
theorem tg29 :zaB Tryz.prog 29 ti29:=zaD Tryz.underlying29 (by kernel_rfl)
theorem tg30 :zaB Tryz.prog 30 ti30:=zaD Tryz.underlying30 (by kernel_rfl)
theorem tg36 :zaB Tryz.prog 36 ti36:=zaD Tryz.underlying36 (by kernel_rfl)
theorem tg37 :zaB Tryz.prog 37 ti37:=zaD Tryz.underlying37 (by kernel_rfl)
theorem tg39 :zaB Tryz.prog 39 ti39:=zaD Tryz.underlying39 (by kernel_rfl)
theorem tg40 :zaB Tryz.prog 40 ti40:=zaD Tryz.underlying40 (by kernel_rfl)
theorem tg41 :zaB Tryz.prog 41 ti41:=zaD Tryz.underlying41 (by kernel_rfl)
theorem tg42 :zaB Tryz.prog 42 ti42:=zaD Tryz.underlying42 (by kernel_rfl)
theorem tg43 :zaB Tryz.prog 43 ti43:=zaD Tryz.underlying43 (by kernel_rfl)
theorem tg44 :zaB Tryz.prog 44 ti44:=zaD Tryz.underlying44 (by kernel_rfl)
theorem tg46 :zaB Tryz.prog 46 ti46:=zaD Tryz.underlying46 (by kernel_rfl)
theorem tg49 :zaB Tryz.prog 49 ti49:=zaD Tryz.underlying49 (by kernel_rfl)
theorem tg50 :zaB Tryz.prog 50 ti50:=zaD Tryz.underlying50 (by kernel_rfl)
theorem tg51 :zaB Tryz.prog 51 ti51:=zaD Tryz.underlying51 (by kernel_rfl)
theorem tg52 :zaB Tryz.prog 52 ti52:=zaD Tryz.underlying52 (by kernel_rfl)
theorem tg53 :zaB Tryz.prog 53 ti53:=zaD Tryz.underlying53 (by kernel_rfl)
theorem tg55 :zaB Tryz.prog 55 ti55:=zaD Tryz.underlying55 (by kernel_rfl)
theorem tg58 :zaB Tryz.prog 58 ti58:=zaD Tryz.underlying58 (by kernel_rfl)
theorem tg59 :zaB Tryz.prog 59 ti59:=zaD Tryz.underlying59 (by kernel_rfl)
theorem tg62 :zaB Tryz.prog 62 ti62:=zaD Tryz.underlying62 (by kernel_rfl)
theorem tg66 :zaB Tryz.prog 66 ti66:=zaD Tryz.underlying66 (by kernel_rfl)
theorem tg67 :zaB Tryz.prog 67 ti67:=zaD Tryz.underlying67 (by kernel_rfl)
theorem tg68 :zaB Tryz.prog 68 ti68:=zaD Tryz.underlying68 (by kernel_rfl)
theorem tg69 :zaB Tryz.prog 69 ti69:=zaD Tryz.underlying69 (by kernel_rfl)
theorem tg70 :zaB Tryz.prog 70 ti70:=zaD Tryz.underlying70 (by kernel_rfl)
theorem tg71 :zaB Tryz.prog 71 ti71:=zaD Tryz.underlying71 (by kernel_rfl)
theorem tg73 :zaB Tryz.prog 73 ti73:=zaD Tryz.underlying73 (by kernel_rfl)
theorem tg74 :zaB Tryz.prog 74 ti74:=zaD Tryz.underlying74 (by kernel_rfl)
theorem tg75 :zaB Tryz.prog 75 ti75:=zaD Tryz.underlying75 (by kernel_rfl)
theorem tg86 :zaB Tryz.prog 86 ti86:=zaD Tryz.underlying86 (by kernel_rfl)
theorem tg87 :zaB Tryz.prog 87 ti87:=zaD Tryz.underlying87 (by kernel_rfl)
theorem tg92 :zaB Tryz.prog 92 ti92:=zaD Tryz.underlying92 (by kernel_rfl)
theorem tg94 :zaB Tryz.prog 94 ti94:=zaD Tryz.underlying94 (by kernel_rfl)
theorem tg95 :zaB Tryz.prog 95 ti95:=zaD Tryz.underlying95 (by kernel_rfl)
theorem tg96 :zaB Tryz.prog 96 ti96:=zaD Tryz.underlying96 (by kernel_rfl)
theorem tg97 :zaB Tryz.prog 97 ti97:=zaD Tryz.underlying97 (by kernel_rfl)
theorem tg98 :zaB Tryz.prog 98 ti98:=zaD Tryz.underlying98 (by kernel_rfl)
theorem zhr :zaB Tryz.prog 102 ti102:=zaD Tryz.underlying102 (by kernel_rfl)
theorem zhs :zaB Tryz.prog 104 ti104:=zaD Tryz.underlying104 (by kernel_rfl)
theorem zht :zaB Tryz.prog 106 ti106:=zaD Tryz.underlying106 (by kernel_rfl)
theorem zhu :zaB Tryz.prog 108 ti108:=zaD Tryz.underlying108 (by kernel_rfl)
theorem zhv :zaB Tryz.prog 110 ti110:=zaD Tryz.underlying110 (by kernel_rfl)
theorem zhw :zaB Tryz.prog 111 ti111:=zaD Tryz.underlying111 (by kernel_rfl)
theorem zhx :zaB Tryz.prog 112 ti112:=zaD Tryz.underlying112 (by kernel_rfl)
theorem zhy :zaB Tryz.prog 113 ti113:=zaD Tryz.underlying113 (by kernel_rfl)
theorem zhz :zaB Tryz.prog 123 ti123:=zaD Tryz.underlying123 (by kernel_rfl)
theorem zhA :zaB Tryz.prog 130 ti130:=zaD Tryz.underlying130 (by kernel_rfl)
theorem zhB :zaB Tryz.prog 131 ti131:=zaD Tryz.underlying131 (by kernel_rfl)
theorem zhC :zaB Tryz.prog 133 ti133:=zaD Tryz.underlying133 (by kernel_rfl)
theorem zhD :zaB Tryz.prog 134 ti134:=zaD Tryz.underlying134 (by kernel_rfl)
theorem zhE :zaB Tryz.prog 138 ti138:=zaD Tryz.underlying138 (by kernel_rfl)
theorem zhF :zaB Tryz.prog 139 ti139:=zaD Tryz.underlying139 (by kernel_rfl)
theorem zhG :zaB Tryz.prog 140 ti140:=zaD Tryz.underlying140 (by kernel_rfl)
theorem zhH :zaB Tryz.prog 141 ti141:=zaD Tryz.underlying141 (by kernel_rfl)
theorem zhI :zaB Tryz.prog 142 ti142:=zaD Tryz.underlying142 (by kernel_rfl)
theorem zhJ :zaB Tryz.prog 143 ti143:=zaD Tryz.underlying143 (by kernel_rfl)
theorem zhK :zaB Tryz.prog 144 ti144:=zaD Tryz.underlying144 (by kernel_rfl)
theorem zhL :zaB Tryz.prog 145 ti145:=zaD Tryz.underlying145 (by kernel_rfl)
theorem zhM :zaB Tryz.prog 146 ti146:=zaD Tryz.underlying146 (by kernel_rfl)
theorem zhN :zaB Tryz.prog 147 ti147:=zaD Tryz.underlying147 (by kernel_rfl)
theorem zhO :zaB Tryz.prog 148 ti148:=zaD Tryz.underlying148 (by kernel_rfl)
theorem zhP :zaB Tryz.prog 149 ti149:=zaD Tryz.underlying149 (by kernel_rfl)
theorem zhQ :zaB Tryz.prog 150 ti150:=zaD Tryz.underlying150 (by kernel_rfl)
theorem zhR :zaB Tryz.prog 151 ti151:=zaD Tryz.underlying151 (by kernel_rfl)
theorem zhS :zaB Tryz.prog 152 ti152:=zaD Tryz.underlying152 (by kernel_rfl)
theorem zhT :zaB Tryz.prog 153 ti153:=zaD Tryz.underlying153 (by kernel_rfl)
theorem zhU :zaB Tryz.prog 154 ti154:=zaD Tryz.underlying154 (by kernel_rfl)
theorem zhV :zaB Tryz.prog 155 ti155:=zaD Tryz.underlying155 (by kernel_rfl)
theorem zhW :zaB Tryz.prog 159 ti159:=zaD Tryz.underlying159 (by kernel_rfl)
theorem zhX :zaB Tryz.prog 160 ti160:=zaD Tryz.underlying160 (by kernel_rfl)
theorem zhY :zaB Tryz.prog 165 ti165:=zaD Tryz.underlying165 (by kernel_rfl)
theorem zhZ :zaB Tryz.prog 167 ti167:=zaD Tryz.underlying167 (by kernel_rfl)
theorem zh0 :zaB Tryz.prog 168 ti168:=zaD Tryz.underlying168 (by kernel_rfl)
theorem zh1 :zaB Tryz.prog 173 ti173:=zaD Tryz.underlying173 (by kernel_rfl)
theorem zh2 :zaB Tryz.prog 174 ti174:=zaD Tryz.underlying174 (by kernel_rfl)
theorem zh3 :zaB Tryz.prog 233 ti233:=zaD Tryz.underlying233 (by kernel_rfl)
theorem zh4 :zaB Tryz.prog 247 ti247:=zaD Tryz.underlying247 (by kernel_rfl)
theorem zh5 :zaB Tryz.prog 261 ti261:=zaD Tryz.underlying261 (by kernel_rfl)
theorem zh6 :zaB Tryz.prog 268 ti268:=zaD Tryz.underlying268 (by kernel_rfl)
theorem zh7 :zaB Tryz.prog 270 ti270:=zaD Tryz.underlying270 (by kernel_rfl)
theorem zh8 :zaB Tryz.prog 271 ti271:=zaD Tryz.underlying271 (by kernel_rfl)
theorem zh9 :zaB Tryz.prog 274 ti274:=zaD Tryz.underlying274 (by kernel_rfl)
theorem zia :zaB Tryz.prog 275 ti275:=zaD Tryz.underlying275 (by kernel_rfl)
theorem zib :zaB Tryz.prog 276 ti276:=zaD Tryz.underlying276 (by kernel_rfl)
theorem zic :zaB Tryz.prog 277 ti277:=zaD Tryz.underlying277 (by kernel_rfl)
theorem zid :zaB Tryz.prog 289 ti289:=zaD Tryz.underlying289 (by kernel_rfl)
theorem zie :zaB Tryz.prog 292 ti292:=zaD Tryz.underlying292 (by kernel_rfl)
theorem zif :zaB Tryz.prog 297 ti297:=zaD Tryz.underlying297 (by kernel_rfl)
theorem zig :zaB Tryz.prog 301 ti301:=zaD Tryz.underlying301 (by kernel_rfl)
theorem zih :zaB Tryz.prog 314 ti314:=zaD Tryz.underlying314 (by kernel_rfl)
theorem zii :zaB Tryz.prog 315 ti315:=zaD Tryz.underlying315 (by kernel_rfl)
theorem zij :zaB Tryz.prog 319 ti319:=zaD Tryz.underlying319 (by kernel_rfl)
theorem zik :zaB Tryz.prog 320 ti320:=zaD Tryz.underlying320 (by kernel_rfl)
theorem zil :zaB Tryz.prog 322 ti322:=zaD Tryz.underlying322 (by kernel_rfl)
theorem zim :zaB Tryz.prog 323 ti323:=zaD Tryz.underlying323 (by kernel_rfl)
theorem zin :zaB Tryz.prog 324 ti324:=zaD Tryz.underlying324 (by kernel_rfl)
theorem zio :zaB Tryz.prog 325 ti325:=zaD Tryz.underlying325 (by kernel_rfl)
theorem zip :zaB Tryz.prog 326 ti326:=zaD Tryz.underlying326 (by kernel_rfl)
theorem hT :zbc Tryz.prog TT:=
 zai tg2 <| zai tg3 <| zai tg4 <| zai tg5 <| zai tg6 <| zai tg7 <| zai tg8 <| zai tg9 <| zai tg10 <| zai tg11 <| zai tg12 <| zai tg13 <| zai tg14 <| zai tg15 <| zai tg16 <| zai tg17 <| zai tg18 <| zai tg19 <| zai tg21 <| zai tg22 <| zai tg23 <| zai tg25 <| zai tg27 <| zai tg29 <| zai tg30 <| zai tg36 <| zai tg37 <| zai tg39 <| zai tg40 <| zai tg41 <| zai tg42 <| zai tg43 <| zai tg44 <| zai tg46 <| zai tg49 <| zai tg50 <| zai tg51 <| zai tg52 <| zai tg53 <| zai tg55 <| zai tg58 <| zai tg59 <| zai tg62 <| zai tg66 <| zai tg67 <| zai tg68 <| zai tg69 <| zai tg70 <| zai tg71 <| zai tg73 <| zai tg74 <| zai tg75 <| zai tg86 <| zai tg87 <| zai tg92 <| zai tg94 <| zai tg95 <| zai tg96 <| zai tg97 <| zai tg98 <| zai zhr <| zai zhs <| zai zht <| zai zhu <| zai zhv <| zai zhw <| zai zhx <| zai zhy <| zai zhz <| zai zhA <| zai zhB <| zai zhC <| zai zhD <| zai zhE <| zai zhF <| zai zhG <| zai zhH <| zai zhI <| zai zhJ <| zai zhK <| zai zhL <| zai zhM <| zai zhN <| zai zhO <| zai zhP <| zai zhQ <| zai zhR <| zai zhS <| zai zhT <| zai zhU <| zai zhV <| zai zhW <| zai zhX <| zai zhY <| zai zhZ <| zai zh0 <| zai zh1 <| zai zh2 <| zai zh3 <| zai zh4 <| zai zh5 <| zai zh6 <| zai zh7 <| zai zh8 <| zai zh9 <| zai zia <| zai zib <| zai zic <| zai zid <| zai zie <| zai zif <| zai zig <| zai zih <| zai zii <| zai zij <| zai zik <| zai zil <| zai zim <| zai zin <| zai zio <| zai zip <| zgH
theorem hmix :Tryz.prog.follows .mixedOrders=true:=by kernel_rfl
end Go.Proofs.YteocfhdocpeokaaGreat
set_option linter.unusedSimpArgs false
set_option linter.unusedVariables false
namespace Go.Sl
open Go
structure Due where
 tick:Int
 kind:Int
 id:Int
 deriving DecidableEq
def Due.enc (d:Due):List Value:=[.int .i64 d.tick,.int .i64 d.kind,.int .i64 d.id]
theorem Due.enc_len (d:Due):d.enc.length=3:=rfl
theorem Due.enc_one (d:Due):∀v∈d.enc,v.oneCell'=true:=List.all_eq_true.1 (rfl:d.enc.all Value.oneCell'=true)
structure zdS where
 id:Int
 ask:Int
 dealer:Int
 price:Int
 expires:Int
 live:Bool
 deriving DecidableEq
def zdS.enc (q:zdS):List Value:=[.int .i64 q.id,.int .i64 q.ask,.int .i64 q.dealer,.int .i64 q.price,.int .i64 q.expires,.bool q.live]
theorem zdS.enc_len (d:zdS):d.enc.length=6:=rfl
theorem zdS.enc_one (d:zdS):∀v∈d.enc,v.oneCell'=true:=List.all_eq_true.1 (rfl:d.enc.all Value.oneCell'=true)
structure AskR where
 id:Int
 client:Int
 bond:Int
 side:Int
 qty:Int
 dealers:Int
 ends:Int
 until_:Int
 state:Int
 hit:Int
 deriving DecidableEq
def AskR.enc (a:AskR):List Value:=[.int .i64 a.id,.int .i64 a.client,.int .i64 a.bond,.int .i64 a.side,.int .i64 a.qty,.int .u64 a.dealers,.int .i64 a.ends,.int .i64 a.until_,.int .i64 a.state,.int .i64 a.hit]
theorem AskR.enc_len (d:AskR):d.enc.length=10:=rfl
theorem AskR.enc_one (d:AskR):∀v∈d.enc,v.oneCell'=true:=List.all_eq_true.1 (rfl:d.enc.all Value.oneCell'=true)
structure zaF where
 id:Int
 seq:Int
 owner:Int
 side:Int
 price:Int
 left:Int
 deriving DecidableEq
def zaF.enc (o:zaF):List Value:=[.int .i64 o.id,.int .i64 o.seq,.int .i64 o.owner,.int .i64 o.side,.int .i64 o.price,.int .i64 o.left]
theorem zaF.enc_len (d:zaF):d.enc.length=6:=rfl
theorem zaF.enc_one (d:zaF):∀v∈d.enc,v.oneCell'=true:=List.all_eq_true.1 (rfl:d.enc.all Value.oneCell'=true)
/-- the place of the first one that is such; -1: there is none -/
def zbf {α:Type}(p:α→Bool):List α→Int
 |[]=> -1
 |x::l=>if p x then 0 else(let i:=zbf p l;if i<0 then -1 else i+1)
theorem zcF {α:Type}{p:α→Bool}:∀{l:List α} {i:Nat} {x:α},l[i]? =some x→p x=true→(∀(j:Nat) y,j<i→l[j]? =some y→p y=false)→zbf p l=i
 |[],i,x,h,_,_=>by simp at h
 |y::l,0,x,h,hp,_=>by simp at h;subst h;simp[zbf,hp]
 |y::l,i+1,x,h,hp,hn=>by
  have h0:=hn 0 y (by omega) rfl
  have ih:=zcF (p:=p) (l:=l) (i:=i) (x:=x) (by simpa using h) hp (fun j z hj hz=>hn (j+1) z (by omega) (by simpa using hz))
  have h1:¬((i:Int)<0):=by omega
  simp[zbf,h0,ih,h1]
theorem zbE {α:Type}{p:α→Bool}:∀{l:List α},(∀(j:Nat) y,l[j]? =some y→p y=false)→zbf p l= -1
 |[],_=>rfl
 |y::l,hn=>by
  have ih:=zbE (p:=p) (l:=l) (fun(j:Nat) z hz=>hn (j+1) z (by simpa using hz))
  simp[zbf,hn 0 y rfl,ih]
theorem zeP {α:Type}{p:α→Bool}:∀{l:List α},-1≤zbf p l
 |[]=>by simp[zbf]
 |y::l=>by
  have ih:=zeP (p:=p) (l:=l)
  unfold zbf
  split
  ·omega
  ·(try dsimp only);split<;>omega
theorem zbZ {α:Type}{p:α→Bool}{l:List α}:zbf p l<0↔∀x∈l,p x=false:=by
 constructor
 ·intro h x hx
  induction l with
  |nil=>cases hx
  |cons y l ih=>
   unfold zbf at h
   split at h
   ·omega
   ·rename_i hp
    have h1:zbf p l<0:=by
     simp only at h
     split at h
     ·assumption
     ·omega
    rcases List.mem_cons.1 hx with rfl|hx
    ·simpa using hp
    ·exact ih h1 hx
 ·intro h
  have:=zbE (p:=p) (l:=l) (fun j y hj=>h y (mog hj))
  omega
theorem zcQ {α:Type}{p:α→Bool}:∀{l:List α} {i:Nat},zbf p l=(i:Int)→∃x,l[i]? =some x∧p x=true∧∀(j:Nat) y,j<i→l[j]? =some y→p y=false
 |[],i,h=>by simp[zbf]at h
 |y::l,i,h=>by
  unfold zbf at h
  split at h
  ·rename_i hp;obtain rfl:i=0:=by omega
   exact⟨y,rfl,hp,fun j y hj=>absurd hj (Nat.not_lt_zero _)⟩
  ·rename_i hp
   simp only at h
   split at h
   ·omega
   ·obtain⟨k,rfl⟩:∃k,i=k+1:=⟨i - 1,by omega⟩
    obtain⟨x,hx,hpx,hb⟩:=zcQ (p:=p) (l:=l) (i:=k) (by omega)
    refine⟨x,by simpa using hx,hpx,fun j z hj hz=> ?_⟩
    cases j with
    |zero=>simp at hz;subst hz;simpa using hp
    |succ j=>exact hb j z (by omega) (by simpa using hz)
theorem zb7 {α:Type}{p:α→Bool}:∀{l:List α},∀x∈l.take (l.takeWhile p).length,p x=true
 |[],x,h=>by simp at h
 |y::l,x,h=>by
  by_cases hp:p y=true
  ·simp only[List.takeWhile_cons,hp,if_true,List.length_cons,List.take_succ_cons,List.mem_cons]at h
   rcases h with rfl|h
   ·exact hp
   ·exact zb7 x h
  ·simp[List.takeWhile_cons,hp]at h
theorem zbP {α:Type}{p:α→Bool}:∀{l:List α} {y:α} {m:List α},l.drop (l.takeWhile p).length=y::m→p y=false
 |[],y,m,h=>by simp at h
 |x::l,y,m,h=>by
  by_cases hp:p x=true
  ·simp only[List.takeWhile_cons,hp,if_true,List.length_cons,List.drop_succ_cons]at h
   exact zbP h
  ·simp only[List.takeWhile_cons,hp,Bool.false_eq_true,if_false,List.length_nil,List.drop_zero]at h
   injection h with h1 h2
   subst h1
   simpa using hp
theorem zf8 {α:Type}(l:List α)(q:α)(i:Nat):(l.take i++[q]++l.drop i).Perm (q::l):=by
 rw[List.append_assoc,List.singleton_append]
 exact List.perm_middle.trans (by rw[List.take_append_drop])
end Go.Sl
set_option linter.unusedSimpArgs false
set_option linter.unusedVariables false
namespace Go.Proofs.YteocfhdocpeokaaGreat
open Go Go.Sl
attribute [local irreducible] AW ES Ld RetQ
set_option maxRecDepth 100000
def cmpI (x y:Int):Int:=if x<y then -1 else if y<x then 1 else 0
end Go.Proofs.YteocfhdocpeokaaGreat
set_option linter.unusedSimpArgs false
set_option linter.unusedVariables false
namespace Go.Sl
open Go Go.RowKit Go.ChangeShapes Go.WideShapes
/-! ### leaves -/
inductive Leaf where
 |int (k:IntKind)
 |bool
 deriving DecidableEq
def Leaf.fits :Leaf→Value→Prop
 | .int k,v=>∃n,v=.int k n∧(Lit.int k n).wf=true
 | .bool,v=>∃b,v=.bool b
def zbu :List Leaf→List Value→Prop
 |[],[]=>True
 |l::ls,v::vs=>l.fits v∧zbu ls vs
 |_,_=>False
theorem zbu.len :∀{ls:List Leaf} {vs:List Value},zbu ls vs→vs.length=ls.length
 |[],[],_=>rfl
 |l::ls,v::vs,h=>by simp[zbu.len h.2]
theorem zbu.app :∀{ls ms:List Leaf} {vs us:List Value},zbu ls vs→zbu ms us→zbu (ls++ms) (vs++us)
 |[],_,[],_,_,h=>h
 |l::ls,_,v::vs,_,h,h2=>⟨h.1,zbu.app h.2 h2⟩
theorem zbu.one :∀{ls:List Leaf} {vs:List Value},zbu ls vs→∀v∈vs,v.oneCell'=true
 |[],[],_,v,hv=>by cases hv
 |l::ls,u::vs,h,v,hv=>by
  rcases List.mem_cons.1 hv with rfl|hv
  ·cases l with
   |int k=>obtain⟨n,rfl,_⟩:=h.1;rfl
   |bool=>obtain⟨b,rfl⟩:=h.1;rfl
  ·exact zbu.one h.2 v hv
def zdT (P:Program)(lf:TypeId→Option (List Leaf)):List Field→Nat→Option (List Leaf)
 |[],_=>some []
 |f::fs,o=>if f.offset=o then match lf f.type with
   |some l=>if P.cellsOf f.type=l.length then(match zdT P lf fs (o+l.length)with
    |some m=>some (l++m)
    |none=>none)else none
   |none=>none
  else none
def zfu (P:Program):Nat→TypeId→Option (List Leaf)
 |0,_=>none
 |n+1,t=>match P.underlying t with
  |some (.int k)=>some [.int k]
  |some .bool=>some [.bool]
  |some (.struct fs)=>zdT P (zfu P n) fs.toList 0
  |some (.array m e)=>match zfu P n e with
   |some l=>if P.cellsOf e=l.length then some ((List.replicate m l).flatten)else none
   |none=>none
  |_=>none
section
variable {H : Type} {enc : TypeId × Value → H} {P : Program} {w : World} {base : Nat} {spare : Nat → Bool} {held : Bool}
theorem zdF {α:Type}(cs:List α)(o n:Nat):cs.drop o=(cs.drop o).take n++cs.drop (o+n):=by
 rw[←List.drop_drop,List.take_append_drop]
theorem zcR {lf:TypeId→Option (List Leaf)}{cs:List Value}{m:Nat}
 (hlf:∀t l cs' x,lf t=some l→cs'.length=l.length→DataW.trod enc P w base spare held m t cs'=some x→zbu l cs'):
 ∀(fs:List Field) (o:Nat) (ls:List Leaf),zdT P lf fs o=some ls→cs.length=o+ls.length→
  (∀f∈fs,∃x,DataW.trod enc P w base spare held m f.type ((cs.drop f.offset).take (P.cellsOf f.type))=some x)→zbu ls (cs.drop o)
 |[],o,ls,hl,hlen,_=>by
  simp only[zdT,Option.some.injEq]at hl
  subst hl
  rw[List.drop_of_length_le (by simp at hlen;omega)]
  trivial
 |f::fs,o,ls,hl,hlen,hx=>by
  unfold zdT at hl
  split at hl
  ·rename_i ho
   split at hl
   ·rename_i l h1
    split at hl
    ·rename_i h2
     split at hl
     ·rename_i k h3
      injection hl with hl
      subst hl
      rw[lla]at hlen
      obtain⟨x,hx1⟩:=hx f (by simp)
      rw[ho,h2]at hx1
      rw[zdF cs o l.length]
      exact(hlf _ _ _ _ h1 (by simp;omega) hx1).app (zcR hlf fs (o+l.length) k h3 (by omega) (fun g hg=>hx g (by simp[hg])))
     ·cases hl
    ·cases hl
   ·cases hl
  ·cases hl
theorem zf9 {l:List Leaf}{cs:List Value}:∀(m:Nat),cs.length=m*l.length→(∀i,i<m→zbu l ((cs.drop (i*l.length)).take l.length))→zbu ((List.replicate m l).flatten) cs:=by
 intro m
 induction m generalizing cs with
 |zero=>
  intro h _
  have:cs=[]:=List.length_eq_zero_iff.1 (by simpa using h)
  subst this
  trivial
 |succ m ih=>
  intro h hi
  rw[List.replicate_succ,List.flatten_cons,←List.take_append_drop l.length cs]
  have h0:=hi 0 (by omega)
  simp only[Nat.zero_mul,List.drop_zero]at h0
  refine h0.app (ih (by rw[List.length_drop,h,Nat.succ_mul];omega) (fun i him=> ?_))
  have:=hi (i+1) (by omega)
  rw[List.drop_drop]
  rwa[show l.length+i*l.length=(i+1)*l.length by rw[Nat.succ_mul];omega]
theorem zcu :∀(n fuel:Nat) (t:TypeId) (ls:List Leaf) (cs:List Value) (x:DataW H×List MemPlace),zfu P n t=some ls→cs.length=ls.length→DataW.trod enc P w base spare held fuel t cs=some x→zbu ls cs
 |0,_,_,_,_,_,h,_,_=>by cases h
 |n+1,fuel,t,ls,cs,x,h,hlen,hd=>by
  unfold zfu at h
  split at h
  ·rename_i k ht
   injection h with h;subst h
   obtain⟨m,rfl,_,hw⟩:=DataW.trod_int ht hd
   exact⟨⟨m,rfl,hw⟩,trivial⟩
  ·rename_i ht
   injection h with h;subst h
   obtain⟨b,rfl,_⟩:=DataW.trod_bool ht hd
   exact⟨⟨b,rfl⟩,trivial⟩
  ·rename_i fs ht
   obtain⟨xs,m,rfl,_,_,hxl,hf⟩:=DataW.trod_struct ht hd
   have:=zcR (enc:=enc) (P:=P) (w:=w) (base:=base) (spare:=spare) (held:=held) (cs:=cs) (m:=m) (fun t l cs' x h1 h2 h3=>zcu n m t l cs' x h1 h2 h3) fs.toList 0 ls h (by omega) (fun f hfm=>by
    obtain⟨i,hi⟩:=List.getElem?_of_mem hfm
    rw[Array.getElem?_toList]at hi
    have h1:=hf i f hi
    have hil:i<xs.length:=by rw[hxl];exact(Array.getElem?_eq_some_iff.1 hi).1
    exact⟨xs[i],by rw[h1,gge hil]⟩)
   simpa using this
  ·rename_i m e ht
   split at h
   ·rename_i l hl
    split at h
    ·rename_i hc
     injection h with h;subst h
     obtain⟨xs,k,rfl,_,_,hxl,hf⟩:=DataW.trod_array ht hd
     have hcl:cs.length=m*l.length:=by rw[hlen];simp
     refine zf9 m hcl (fun i hi=> ?_)
     have h1:=hf i hi
     rw[hc]at h1
     have hil:i<xs.length:=by omega
     refine zcu n k e l _ xs[i] hl ?_ (by rw[h1,gge hil])
     have:(i+1)*l.length≤m*l.length:=Nat.mul_le_mul_right _ (by omega)
     rw[Nat.succ_mul]at this
     simp;omega
    ·cases h
   ·cases h
  ·cases h
end
theorem zgR {W:World}{a:Addr}{n k:Nat}{cs:List Value}(hl:cs.length=n*k)(h1:∀v∈cs,v.oneCell'=true)(hc:∀j v,cs[j]? =some v→W.cell? (a.add j)=some v):zaE W [] (some a) n k cs:=
 ⟨hl,h1,fun w hw j v hj=>⟨rfl,by
   have h2:=hc j v hj
   show w.cell? (a.add j)=some v
   rw[hw.below.cell (World.block_lt_of_cell? W _ h2),h2]⟩⟩
/-- rows of cells, each as its leaves say, read as a list -/
theorem zdU {α:Type}{en:α→List Value}{ok:α→Prop}{ls:List Leaf}(hdec:∀vs,zbu ls vs→∃x,en x=vs∧ok x)(R:Nat→List Value):
 ∀(n:Nat),(∀i,i<n→zbu ls (R i))→∃l:List α,l.length=n∧(∀x∈l,ok x)∧l.flatMap en=(List.range n).flatMap R
 |0,_=>⟨[],rfl,(fun x h=>by cases h),rfl⟩
 |n+1,h=>by
  obtain⟨l,h1,h2,h3⟩:=zdU hdec R n (fun i hi=>h i (by omega))
  obtain⟨x,hx1,hx2⟩:=hdec _ (h n (by omega))
  refine⟨l++[x],by simp[h1],fun y hy=> ?_,?_⟩
  ·rcases lma.1 hy with hy|hy
   ·exact h2 y hy
   ·rw[lms.1 hy];exact hx2
  ·rw[List.flatMap_append,h3,List.range_succ,List.flatMap_append];simp[hx1]
section
variable {H : Type} {enc : TypeId × Value → H} {P : Program} {W : World}
/-- an argument that is a slice -/
theorem zdV {t e:TypeId}{ls:List Leaf}{α:Type}{en:α→List Value}{ok:α→Prop}{r:Reach}{b0:Nat}{v:Value}{d:DataW H}{p:List MemPlace}(N:Nat)(ht:P.underlying t=some (.slice e))(hl:zfu P N e=some ls)(hC:P.cellsOf e=ls.length)
 (hdec:∀vs,zbu ls vs→∃x,en x=vs∧ok x)(hval:Value.okWide P W r b0 t v)(h:DataW.Trod enc P W 0 (fun _=>true) true t v d p):
 ∃A c,∃l:List α,v=.slice A l.length c∧l.length≤c∧(∀x∈l,ok x)∧zaE W [] A l.length ls.length (l.flatMap en):=by
 obtain⟨A,n,c,rfl⟩:=okWide_slice ht hval
 obtain⟨fuel,hf⟩:=h
 rcases Go.Deep.open_slice ht hf with ⟨h0,_⟩|⟨a,len,cap,m,k,D,Pl,hcs,_,hlc,hcm,hm,_,hi⟩
 ·injection h0 with h0 _
  injection h0 with h1 h2 h3
  subst h1 h2 h3
  exact⟨none,0,[],rfl,Nat.le_refl _,fun x hx=>(by cases hx),by simpa using zaE.none_⟩
 ·injection hcs with h0 _
  injection h0 with h1 h2 h3
  subst h1 h2 h3
  simp only[if_true]at hm
  subst hm
  have hrow:∀i,i<n→∃cs',zbu ls cs'∧∀j,j<ls.length→W.cell? (a.add (i*ls.length+j))=cs'[j]? :=fun i hin=>by
   obtain⟨cs',hc,ht'⟩:=hi i (by omega)
   rw[hC]at hc
   obtain⟨_,hcl,hat⟩:=World.cells?_some hc
   refine⟨cs',zcu N k e ls cs' _ hl hcl ht',fun j hj=> ?_⟩
   rw[←Go.Deep.add_add]
   exact hat j hj
  let R:Nat→List Value:=fun i=>if hin:i<n then Classical.choose (hrow i hin)else []
  have hR:∀i (hin:i<n),zbu ls (R i)∧∀j,j<ls.length→W.cell? (a.add (i*ls.length+j))=(R i)[j]? :=fun i hin=>by
   have:=Classical.choose_spec (hrow i hin)
   simp only[R,hin,dif_pos]
   exact this
  obtain⟨l,l1,l2,l3⟩:=zdU hdec R n (fun i hin=>(hR i hin).1)
  subst l1
  have hlen:∀m,m≤l.length→((List.range m).flatMap R).length=m*ls.length:=by
   intro m
   induction m with
   |zero=>intro _;simp
   |succ m ih=>intro hm;rw[List.range_succ,List.flatMap_append,lla,ih (by omega),Nat.succ_mul];simp[(hR m (by omega)).1.len]
  have hone:∀v∈(List.range l.length).flatMap R,v.oneCell'=true:=fun v hv=>by
   obtain⟨i,hin,hv⟩:=List.mem_flatMap.1 hv
   exact(hR i (List.mem_range.1 hin)).1.one v hv
  have hat:∀m,m≤l.length→∀j v,((List.range m).flatMap R)[j]? =some v→W.cell? (a.add j)=some v:=by
   intro m
   induction m with
   |zero=>intro _ j v hj;simp at hj
   |succ m ih=>
    intro hm j v hj
    rw[List.range_succ,List.flatMap_append]at hj
    rcases Nat.lt_or_ge j ((List.range m).flatMap R).length with hlt|hge
    ·rw[List.getElem?_append_left hlt]at hj
     exact ih (by omega) j v hj
    ·rw[List.getElem?_append_right hge]at hj
     have e:=hlen m (by omega)
     rw[e]at hj hge
     simp only[List.flatMap_cons,List.flatMap_nil,List.append_nil]at hj
     have hjl:j - m*ls.length<ls.length:=by
      have:=(gsi.1 hj).1
      rw[(hR m (by omega)).1.len]at this
      exact this
     have h2:=(hR m (by omega)).2 _ hjl
     rw[show m*ls.length+(j - m*ls.length)=j by omega]at h2
     rw[h2,hj]
  refine⟨some a,_,l,rfl,hlc,l2,?_⟩
  rw[l3]
  exact zgR (hlen _ (Nat.le_refl _)) hone (hat _ (Nat.le_refl _))
theorem zci (hl:laidOutB P=true){W':World}{sp:Nat→Bool}(hb:Below W.heap.size W W'):∀{ts:List TypeId} {vs:List Value} {ds:List (DataW H)} {ps:List MemPlace},
 (∀t∈ts,P.readableRec t=true∧t<P.types.size)→DataW.TrodAll enc P W 0 (fun _=>true) true ts vs ds ps→(∀x∈ps,x.block<W.heap.size)→(∀x∈ps,sp x.block=true)→DataW.TrodAll enc P W' 0 sp true ts vs ds ps
 |[],_,_,_,_,h,_,_=>by
  obtain⟨rfl,rfl,rfl⟩:=trodAll_nil h
  exact trodAll_mk0
 |t::ts,_,_,_,hr,h,hlt,hsp=>by
  obtain⟨v,vs',d,ds',p,q,rfl,rfl,rfl,h1,h2⟩:=trodAll_cons h
  exact trodAll_cons_mk (WideElems.Trod_stays hl (hr t (by simp)).1 (hr t (by simp)).2 h1 (fun x hx=>hb.same (hlt x (by simp[hx]))) (fun x hx=>hsp x (by simp[hx])))
   (zci hl hb (fun u hu=>hr u (by simp[hu])) h2 (fun x hx=>hlt x (by simp[hx])) (fun x hx=>hsp x (by simp[hx])))
/-- the row's answer: the call says true and has turned nothing that was there -/
theorem zga {f:Func}{s:ChangeSpec}{apart fresh handsOn again:Bool}{W':World}{args:Array Value}{ds:List (DataW H)}{before:List MemPlace}{tb:TypeId}
 (hW:DataW.Whole enc P f.params.toList s.vars apart W args.toList ds [] before) (hA:DataW.TrodAll enc P W 0 (fun _=>true) true f.params.toList args.toList ds before)
 (hl:laidOutB P=true) (hrow:(f.params.toList.all fun t=>P.readableRec t&&decide (t<P.types.size))=true) (hv:s.vars=[]) (hr:f.resultTypes= #[tb]) (htb:P.underlying tb=some .bool)
 (h1:(s.fn H (ds++[])).results=[.lit (.bool true)])(h2:(s.fn H (ds++[])).args=ds)(h3:(s.fn H (ds++[])).vars=[])(hb:Below W.heap.size W W'):
 s.post enc P f apart fresh handsOn again W args (.bool true) W':=by
 have hlt:∀p∈before,p.block<W.heap.size:=fun p hp=>hW.lt p hp
 have hrow':∀t∈f.params.toList,P.readableRec t=true∧t<P.types.size:=fun t ht=>by
  have:=List.all_eq_true.1 hrow t ht
  simpa using this
 have hargs:∀sp:Nat→Bool,(∀p∈before,sp p.block=true)→DataW.TrodAll enc P W' 0 sp true f.params.toList args.toList ds before:=fun sp hsp=>zci hl hb hrow' hA hlt hsp
 have hvars:∀sp:Nat→Bool,DataW.TrodVars enc P W' sp s.vars [] []:=fun sp=>by rw[hv];exact(rfl:([]:List MemPlace)=[])
 have hres:∀(b:Nat) (sp:Nat→Bool) (hd:Bool),DataW.TrodAll enc P W' b sp hd f.resultTypes.toList ((Value.bool true).resultList f.resultTypes.size) [.lit (.bool true)] []:=fun b sp hd=>by
  rw[hr];exact trodAll_cons_mk (shut_bool htb _) trodAll_mk0
 have hold:∀p∈before,(fun b=>decide (b<W.heap.size)) p.block=true:=fun p hp=>by simpa using hlt p hp
 refine⟨ds,[],before,[],before,[],hW,by rw[h1];exact hres _ _ _,by rw[h2];exact hargs _ hold,by rw[h3];exact hvars _,World.keptBut_mono (fun p hp=>⟨hp,.inr (.inl hp)⟩) (hb.frame (·∈before)),fun _=> ?_⟩
 obtain⟨_,_,_,_,_,hz,hn⟩:=hW
 refine⟨ok_one hr rfl (okWide_bool_mk htb _),_,_,([]++before)++[],⟨[]++before,[],trodAll_append (show DataW.TrodAll enc P W' 0 (fun _=>true) true f.params.toList args.toList (s.fn H (ds++[])).args before by rw[h2];exact hargs _ (fun _ _=>rfl)) (show DataW.TrodAll enc P W' 0 (fun _=>true) true f.resultTypes.toList ((Value.bool true).resultList f.resultTypes.size) (s.fn H (ds++[])).results []by rw[h1];exact hres _ _ _),(show DataW.TrodVars enc P W' (fun _=>true) s.vars (s.fn H (ds++[])).vars []by rw[h3];exact hvars _),rfl,?_,?_⟩,?_⟩
 ·intro b off hp
  have hin:MemPlace.cell b off∈before:=by simpa using hp
  rw[hb.frozen (p:=⟨b,off,none⟩) (hlt _ hin)]
  exact hz b off hin
 ·intro ha
  simpa using hn ha
 ·intro p hp _
  simpa using hp
theorem zaI.row {f:FuncId}{args:List Value}{R:Value→List zah→Prop}(hs:zaI P W f args [] R)(hR:∀v h',R v h'→v=.bool true):Calls P f args.toArray W fun e W'=>e=.returned (.bool true)∧Below W.heap.size W W':=
 (hs.2 W (Rep.start W)).mono fun _ _ ⟨v,h',e,r,rp⟩=>⟨by rw[e,hR v h' r],rp.below⟩
end
end Go.Sl
set_option linter.unusedSimpArgs false
set_option linter.unusedVariables false
namespace Go.Sl
open Go Go.ChangeShapes Go.WideShapes
def I64w (n:Int):Prop:= -9223372036854775808≤n∧n≤9223372036854775807
def U64w (n:Int):Prop:=0≤n∧n≤18446744073709551615
theorem wfI {n:Int}(h:(Lit.int .i64 n).wf=true):I64w n:=by
 have h1:(decide ((-9223372036854775808:Int)≤n)&&decide (n≤(9223372036854775807:Int)))=true:=h
 simpa [I64w]using h1
structure MsgR where
 kind:Int
 f0:Int
 f1:Int
 f2:Int
 f3:Int
 f4:Int
 f5:Int
 deriving DecidableEq
def MsgR.enc (x:MsgR):List Value:=[.int .i64 x.kind,.int .i64 x.f0,.int .i64 x.f1,.int .i64 x.f2,.int .i64 x.f3,.int .i64 x.f4,.int .i64 x.f5]
theorem MsgR.enc_len (d:MsgR):d.enc.length=7:=rfl
theorem MsgR.enc_one (d:MsgR):∀v∈d.enc,v.oneCell'=true:=List.all_eq_true.1 (rfl:d.enc.all Value.oneCell'=true)
def MsgR.ok (x:MsgR):Prop:=I64w x.kind∧I64w x.f0∧I64w x.f1∧I64w x.f2∧I64w x.f3∧I64w x.f4∧I64w x.f5
structure OutR where
 to:Int
 msg:MsgR
 deriving DecidableEq
def OutR.enc (x:OutR):List Value:=[.int .i64 x.to]++x.msg.enc
theorem OutR.enc_len (d:OutR):d.enc.length=8:=rfl
theorem OutR.enc_one (d:OutR):∀v∈d.enc,v.oneCell'=true:=List.all_eq_true.1 (rfl:d.enc.all Value.oneCell'=true)
def OutR.ok (x:OutR):Prop:=I64w x.to∧I64w x.msg.kind∧I64w x.msg.f0∧I64w x.msg.f1∧I64w x.msg.f2∧I64w x.msg.f3∧I64w x.msg.f4∧I64w x.msg.f5
structure zcx where
 seq:Int
 msg:MsgR
 deriving DecidableEq
def zcx.enc (x:zcx):List Value:=[.int .i64 x.seq]++x.msg.enc
theorem zcx.enc_len (d:zcx):d.enc.length=8:=rfl
theorem zcx.enc_one (d:zcx):∀v∈d.enc,v.oneCell'=true:=List.all_eq_true.1 (rfl:d.enc.all Value.oneCell'=true)
def zcx.ok (x:zcx):Prop:=I64w x.seq∧I64w x.msg.kind∧I64w x.msg.f0∧I64w x.msg.f1∧I64w x.msg.f2∧I64w x.msg.f3∧I64w x.msg.f4∧I64w x.msg.f5
structure zaG where
 id:Int
 bond:Int
 buyer:Int
 seller:Int
 price:Int
 qty:Int
 ask:Int
 tick:Int
 deriving DecidableEq
def zaG.enc (x:zaG):List Value:=[.int .i64 x.id,.int .i64 x.bond,.int .i64 x.buyer,.int .i64 x.seller,.int .i64 x.price,.int .i64 x.qty,.int .i64 x.ask,.int .i64 x.tick]
theorem zaG.enc_len (d:zaG):d.enc.length=8:=rfl
theorem zaG.enc_one (d:zaG):∀v∈d.enc,v.oneCell'=true:=List.all_eq_true.1 (rfl:d.enc.all Value.oneCell'=true)
def zaG.ok (x:zaG):Prop:=I64w x.id∧I64w x.bond∧I64w x.buyer∧I64w x.seller∧I64w x.price∧I64w x.qty∧I64w x.ask∧I64w x.tick
theorem zdW (vs:List Value)(h:zbu [.int .i64,.int .i64,.int .i64,.int .i64,.int .i64,.int .i64,.int .i64,.int .i64] vs):∃x:zaG,zaG.enc x=vs∧zaG.ok x:=by
 have hlen:vs.length=8:=h.len
 match vs,hlen,h with
 |[u0,u1,u2,u3,u4,u5,u6,u7],_,h=>
  obtain⟨a0,h0,w0⟩:=h.1
  obtain⟨a1,h1,w1⟩:=h.2.1
  obtain⟨a2,h2,w2⟩:=h.2.2.1
  obtain⟨a3,h3,w3⟩:=h.2.2.2.1
  obtain⟨a4,h4,w4⟩:=h.2.2.2.2.1
  obtain⟨a5,h5,w5⟩:=h.2.2.2.2.2.1
  obtain⟨a6,h6,w6⟩:=h.2.2.2.2.2.2.1
  obtain⟨a7,h7,w7⟩:=h.2.2.2.2.2.2.2.1
  exact⟨⟨a0,a1,a2,a3,a4,a5,a6,a7⟩,by rw[h0,h1,h2,h3,h4,h5,h6,h7];rfl,(by unfold zaG.ok;exact⟨wfI w0,wfI w1,wfI w2,wfI w3,wfI w4,wfI w5,wfI w6,wfI w7⟩)⟩
structure za1 where
 tick:Int
 lot:Int
 min:Int
 max:Int
 low:Int
 high:Int
 halted:Bool
 deriving DecidableEq
def za1.enc (x:za1):List Value:=[.int .i64 x.tick,.int .i64 x.lot,.int .i64 x.min,.int .i64 x.max,.int .i64 x.low,.int .i64 x.high,.bool x.halted]
theorem za1.enc_len (d:za1):d.enc.length=7:=rfl
theorem za1.enc_one (d:za1):∀v∈d.enc,v.oneCell'=true:=List.all_eq_true.1 (rfl:d.enc.all Value.oneCell'=true)
def za1.ok (x:za1):Prop:=I64w x.tick∧I64w x.lot∧I64w x.min∧I64w x.max∧I64w x.low∧I64w x.high
structure zaH where
 role:Int
 asks:Int
 cap:Int
 deriving DecidableEq
def zaH.enc (x:zaH):List Value:=[.int .i64 x.role,.int .u64 x.asks,.int .i64 x.cap]
theorem zaH.enc_len (d:zaH):d.enc.length=3:=rfl
theorem zaH.enc_one (d:zaH):∀v∈d.enc,v.oneCell'=true:=List.all_eq_true.1 (rfl:d.enc.all Value.oneCell'=true)
def zaH.ok (x:zaH):Prop:=I64w x.role∧U64w x.asks∧I64w x.cap
def AskR.ok (x:AskR):Prop:=I64w x.id∧I64w x.client∧I64w x.bond∧I64w x.side∧I64w x.qty∧U64w x.dealers∧I64w x.ends∧I64w x.until_∧I64w x.state∧I64w x.hit
end Go.Sl
set_option linter.unusedSimpArgs false
set_option linter.unusedVariables false
namespace Go.Proofs.YteocfhdocpeokaaGreat
open Go Go.Sl
attribute [local irreducible] AW ES EP Ld RetQ
set_option maxRecDepth 100000
structure PRow where
 A:Option Addr
 c:Nat
 l:List Int
def PRow.ck (r:PRow):zah:=.own r.A r.l.length r.c 2 1 (r.l.map (Value.int .i64))
def PRow.hd (r:PRow):Value:=.slice r.A r.l.length r.c
def zaM (p:Nat)(AC:Option Addr)(cC:Nat)(AR:Option Addr)(cR:Nat)(cash:List Int)(rs:List PRow)(F:List zah):List zah:=
 .blk p 69 [.slice AR rs.length cR,.slice AC cash.length cC]::.own AC cash.length cC 2 1 (cash.map (Value.int .i64))::.own AR rs.length cR 66 1 (rs.map PRow.hd)::(rs.map PRow.ck++F)
def zbv (np nb:Int):Bool:=decide (1≤np)&&decide (np≤8)&&(decide (1≤nb)&&decide (nb≤4))
theorem zeo (W:World)(h:List zah)(np nb:Int):zaI Tryz.prog W 6 [.int .i64 np,.int .i64 nb] h
 (fun v h'=>(zbv np nb=false∧v=.pointer none∧h'=h)∨(zbv np nb=true∧∃p AC cC AR cR rs,v=.pointer (some ⟨p,0,none⟩)∧h'=zaM p AC cC AR cR (List.replicate np.toNat 0) rs h∧rs.map PRow.l=List.replicate np.toNat (List.replicate nb.toNat 0))):=by
 refine zaI.dropTo ?_
 refine zau Tryz.func6 rfl rfl Tryz.results6 Tryz.ntmps6 rfl rfl ?_
 by_cases hin:(1≤np∧np≤8)∧(1≤nb∧nb≤4)
 rotate_left
 ·repeat' (first
   |apply zaA|apply zaa|apply zaz|apply zam|apply zan|apply zae|apply zay
   |(apply zaj hT;(iterate 4 exact rfl))|(apply zak;(iterate 3 exact rfl))|(apply zad;(iterate 2 exact rfl))
   |(apply zax hT;(iterate 4 exact rfl);(iterate 2 (first|omega|(dsimp only;omega))))
   |(apply zas [] [] hmix;decide+kernel)
   |(apply zab;(iterate 5 exact rfl);first|(apply zat hT;exact rfl;exact rfl;(repeat(first|exact List.mem_cons_self|apply List.mem_cons_of_mem));exact rfl;exact rfl)|(apply zar hT;exact rfl;exact rfl;(repeat(first|exact List.mem_cons_self|apply List.mem_cons_of_mem));exact rfl))
   |(apply zav;(iterate 5 exact rfl);intro _)|(apply zac hT;(iterate 5 exact rfl);intro _)
   |(apply zaf;(iterate 2 exact rfl))|(apply zag;(iterate 2 exact rfl))
   |(apply zal;exact rfl;all_goals intro hb;all_goals(fail_if_success (change true=true at hb));all_goals(fail_if_success (change false=false at hb));all_goals(try dsimp only at hb);all_goals(try simp only[hb]);all_goals(first|replace hb:=of_decide_eq_true hb|replace hb:=of_decide_eq_false hb|replace hb:=zap hb|replace hb:=zaq hb|replace hb:=eq_of_beq hb|replace hb:=ne_of_beq_false hb|skip);all_goals(try(exfalso;omega)))
   |(apply zao;exact rfl;all_goals intro hb;all_goals(try dsimp only at hb);all_goals(try simp only[hb]);all_goals(first|replace hb:=of_decide_eq_true hb|replace hb:=of_decide_eq_false hb|replace hb:=zap hb|replace hb:=zaq hb|replace hb:=eq_of_beq hb|replace hb:=ne_of_beq_false hb|skip);all_goals(try(exfalso;omega))))
  all_goals first
   |(exfalso;omega)
   |(apply ret1;exact rfl;exact⟨h,dX,.inl ⟨by unfold zbv;simp;omega,rfl,rfl⟩⟩)
   |skip
 obtain⟨⟨n1,n2⟩,n3,n4⟩:=hin
 have hp:zbv np nb=true:=by unfold zbv;simp;omega
 rw[hp]
 obtain⟨n,rfl⟩:=Int.eq_ofNat_of_zero_le (show 0≤np by omega)
 obtain⟨m,rfl⟩:=Int.eq_ofNat_of_zero_le (show 0≤nb by omega)
 simp only[Int.toNat_natCast]
 repeat' (first
  |apply zaA|apply zaa|apply zaz|apply zam|apply zan|apply zae|apply zay
  |(apply zaj hT;(iterate 4 exact rfl))|(apply zak;(iterate 3 exact rfl))|(apply zad;(iterate 2 exact rfl))
  |(apply zax hT;(iterate 4 exact rfl);(iterate 2 (first|omega|(dsimp only;omega))))
  |(apply zas [] [] hmix;decide+kernel)
  |(apply zbj hT;(iterate 12 exact rfl);(iterate 1 exact rfl);omega;exact Nat.le_of_ble_eq_true rfl;intro g21)
  |(apply zaS hT (cs:=[.slice none 0 0,.slice (some ⟨g21,0,none⟩) n n]);(iterate 4 exact rfl))
  |(apply zav;(iterate 5 exact rfl);intro g23)
  |(apply zab;(iterate 5 exact rfl);first|(apply zat hT;exact rfl;exact rfl;(repeat(first|exact List.mem_cons_self|apply List.mem_cons_of_mem));exact rfl;exact rfl)|(apply zar hT;exact rfl;exact rfl;(repeat(first|exact List.mem_cons_self|apply List.mem_cons_of_mem));exact rfl))
  |(apply zav;(iterate 5 exact rfl);intro _)|(apply zac hT;(iterate 5 exact rfl);intro _)
  |(apply zaf;(iterate 2 exact rfl))|(apply zag;(iterate 2 exact rfl))
  |(apply zal;exact rfl;all_goals intro hb;all_goals(fail_if_success (change true=true at hb));all_goals(fail_if_success (change false=false at hb));all_goals(try dsimp only at hb);all_goals(try simp only[hb]);all_goals(first|replace hb:=of_decide_eq_true hb|replace hb:=of_decide_eq_false hb|replace hb:=zap hb|replace hb:=zaq hb|replace hb:=eq_of_beq hb|replace hb:=ne_of_beq_false hb|skip);all_goals(try(exfalso;omega)))
  |(apply zao;exact rfl;all_goals intro hb;all_goals(try dsimp only at hb);all_goals(try simp only[hb]);all_goals(first|replace hb:=of_decide_eq_true hb|replace hb:=of_decide_eq_false hb|replace hb:=zap hb|replace hb:=zaq hb|replace hb:=eq_of_beq hb|replace hb:=ne_of_beq_false hb|skip);all_goals(try(exfalso;omega))))
 all_goals try(exfalso;omega)
 refine zbB (fun w hw=>⟨_,hw.own_nil 66 1,?_⟩)
 refine za2 (α:=Nat×Option Addr×Nat×List PRow) (E:=fun x=>[(0,.int .i64 n),(1,.int .i64 m),(5,.pointer (some ⟨g23,0,none⟩)),(24,.int .i64 n),(25,.int .i64 x.1)])
  (H:=fun x=>zaM g23 (some ⟨g21,0,none⟩) n x.2.1 x.2.2.1 (List.replicate n 0) x.2.2.2 h) (μ:=fun x=>n - x.1)
  (S:=fun x=>x.1≤n∧x.2.2.2.map PRow.l=List.replicate x.1 (List.replicate m 0)) (0,none,0,[]) ⟨Nat.zero_le _,rfl⟩ ⟨rfl,rfl,rfl,rfl,rfl,trivial⟩ (by unfold zaM;rw[List.map_replicate,List.length_replicate];exact dX) ?_
 rintro⟨k,AR,cR,rs⟩ ⟨hk,hrs⟩
 dsimp only at hk hrs ⊢
 have hlen:rs.length=k:=by have:=congrArg List.length hrs;simpa using this
 by_cases hlt:k<n
 ·have hd1:decide ((k:Int)<(n:Int))=true:=by simp;omega
  unfold zaM
  repeat' (first
   |apply zaA|apply zaa|apply zaz|apply zam|apply zan|apply zae|apply zay
   |(apply zaj hT;(iterate 4 exact rfl))|(apply zak;(iterate 3 exact rfl))|(apply zad;(iterate 2 exact rfl))
   |(apply zax hT;(iterate 4 exact rfl);(iterate 2 (first|omega|(dsimp only;omega))))
   |(apply zbr [] [] (.step 0 <| .step 1 <| .step 2 <| .step 3 <| .step 4 <| .step 5 <| .step 6 <| .step 7 <| .step 8 <| .step 9 <| .step 10 <| .step 11 <| .nil) hmix;decide+kernel)|apply zb5|apply zb6|(apply zbA;exact rfl)
   |(apply zbj hT;(iterate 12 exact rfl);(iterate 1 exact rfl);omega;exact Nat.le_of_ble_eq_true rfl;intro g33)
   |(apply zaP hT;(iterate 12 exact rfl);intro g34)
   |(apply zbe hT;(iterate 10 exact rfl);exact sX;exact zaE.own mem0 rfl (List.all_eq_true.1 rfl);omega;(show(_:Nat)*24≤_;omega);intro A' c')
   |(apply zaQ hT;(iterate 6 exact rfl);exact sX;(iterate 3 exact rfl);exact Nat.le_of_ble_eq_true rfl)
   |(apply zab;(iterate 5 exact rfl);first|(apply zat hT;exact rfl;exact rfl;(repeat(first|exact List.mem_cons_self|apply List.mem_cons_of_mem));exact rfl;exact rfl)|(apply zar hT;exact rfl;exact rfl;(repeat(first|exact List.mem_cons_self|apply List.mem_cons_of_mem));exact rfl))
   |(apply zav;(iterate 5 exact rfl);intro _)|(apply zac hT;(iterate 5 exact rfl);intro _)
   |(apply zaf;(iterate 2 exact rfl))|(apply zag;(iterate 2 exact rfl))
   |(apply zal;exact rfl;all_goals intro hb;all_goals(fail_if_success (change true=true at hb));all_goals(fail_if_success (change false=false at hb));all_goals(try dsimp only at hb);all_goals(try simp only[hb]);all_goals(first|replace hb:=of_decide_eq_true hb|replace hb:=of_decide_eq_false hb|replace hb:=zap hb|replace hb:=zaq hb|replace hb:=eq_of_beq hb|replace hb:=ne_of_beq_false hb|skip);all_goals(try(exfalso;omega)))
   |(apply zao;exact rfl;all_goals intro hb;all_goals(try dsimp only at hb);all_goals(try simp only[hb]);all_goals(first|replace hb:=of_decide_eq_true hb|replace hb:=of_decide_eq_false hb|replace hb:=zap hb|replace hb:=zaq hb|replace hb:=eq_of_beq hb|replace hb:=ne_of_beq_false hb|skip);all_goals(try(exfalso;omega))))
  all_goals first
   |(exfalso;omega)
   |(refine zaO (k+1,A',c',rs++[⟨some ⟨g33,0,none⟩,m,List.replicate m 0⟩]) (by dsimp only;omega) ⟨by dsimp only;omega,by dsimp only;rw[List.map_append,hrs,List.replicate_succ'];rfl⟩ ⟨rfl,rfl,rfl,rfl,rfl,trivial⟩ ?_
     dsimp only
     rw[lla,List.map_append,List.map_append,List.append_assoc]
     simp only[List.map_cons,List.map_nil,PRow.hd,PRow.ck,List.length_replicate,List.map_replicate,List.length_cons,List.length_nil,List.cons_append,List.nil_append]
     apply za7;exact sX
     apply za7;exact sX
     apply za7;exact sX
     refine zeN ?_
     exact dX)
   |skip
 ·obtain rfl:k=n:=by omega
  have hd1:decide ((k:Int)<(k:Int))=false:=by simp
  repeat' (first
   |apply zaA|apply zaa|apply zaz|apply zam|apply zan|apply zae|apply zay
   |(apply zaj hT;(iterate 4 exact rfl))|(apply zak;(iterate 3 exact rfl))|(apply zad;(iterate 2 exact rfl))
   |(apply zax hT;(iterate 4 exact rfl);(iterate 2 (first|omega|(dsimp only;omega))))
   |(apply zas [] [] hmix;decide+kernel)
   |(apply zab;(iterate 5 exact rfl);first|(apply zat hT;exact rfl;exact rfl;(repeat(first|exact List.mem_cons_self|apply List.mem_cons_of_mem));exact rfl;exact rfl)|(apply zar hT;exact rfl;exact rfl;(repeat(first|exact List.mem_cons_self|apply List.mem_cons_of_mem));exact rfl))
   |(apply zav;(iterate 5 exact rfl);intro _)|(apply zac hT;(iterate 5 exact rfl);intro _)
   |(apply zaf;(iterate 2 exact rfl))|(apply zag;(iterate 2 exact rfl))
   |(apply zal;exact rfl;all_goals intro hb;all_goals(fail_if_success (change true=true at hb));all_goals(fail_if_success (change false=false at hb));all_goals(try dsimp only at hb);all_goals(try simp only[hb]);all_goals(first|replace hb:=of_decide_eq_true hb|replace hb:=of_decide_eq_false hb|replace hb:=zap hb|replace hb:=zaq hb|replace hb:=eq_of_beq hb|replace hb:=ne_of_beq_false hb|skip);all_goals(try(exfalso;omega)))
   |(apply zao;exact rfl;all_goals intro hb;all_goals(try dsimp only at hb);all_goals(try simp only[hb]);all_goals(first|replace hb:=of_decide_eq_true hb|replace hb:=of_decide_eq_false hb|replace hb:=zap hb|replace hb:=zaq hb|replace hb:=eq_of_beq hb|replace hb:=ne_of_beq_false hb|skip);all_goals(try(exfalso;omega))))
  all_goals first
   |(exfalso;omega)
   |(apply ret1;exact rfl;exact⟨_,zbi,.inr ⟨by trivial,g23,_,_,_,_,_,rfl,rfl,hrs⟩⟩)
end Go.Proofs.YteocfhdocpeokaaGreat
