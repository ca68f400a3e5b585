/- LongestColoring and ClaimOfColors of both. -/
import Derived.Test.YtnnbhcalddkmmaaGreatGr15
import Derived.Test.YtnnbhcalddkmmaaGreatGr7
import Derived.Laws.EntriesVeiled
import Derived.Test.YtnnbhcalddkmmaaGreatGr8
import Derived.Test.YtnnbhcalddkmmaaGreatGr4
import Derived.Test.YtnnbhcalddkmmaaGreatGr5
import Derived.Test.YtnnbhcalddkmmaaGreatGr6
import Derived.Test.YtnnbhcalddkmmaaGreatGr9
import Derived.Deep.RegionHeld3
import Derived.StillTailTactics
namespace Go.Zz
open Go.RowKit Go.Proofs
set_option maxHeartbeats 2000000
set_option maxRecDepth 4000
end Go.Zz
namespace Go.Zz
open Go.RowKit Go.Proofs
set_option maxHeartbeats 1000000
set_option maxRecDepth 8000
end Go.Zz
namespace Go.Zz
set_option linter.unusedVariables false
def b31(P:Nat→Bool)(N b fr:Nat):Nat:=N3 ((List.range N).filter (fun x=>decide (fr≤x)&&P (b ||| 2 ^ x)))
theorem T1{P:Nat→Bool}{N b fr i:Nat}:(b31 P N b fr).testBit i=(decide (i<N)&&(decide (fr≤i)&&P (b ||| 2 ^ i))):=by
 unfold b31;rw[I7,Bool.eq_iff_iff];simp[List.mem_filter]
theorem cc4(P:Nat→Bool)(N b fr:Nat):b31 P N b fr<2 ^ N:=Y3 fun _ hx=>List.mem_range.1 (List.mem_filter.1 hx).1
def fsS(P:Nat→Bool)(N:Nat):Nat→Nat→Nat→Nat
 | 0,b,_=>b
 | f+1,b,fr=>(j1 (b31 P N b fr)).foldl (fun (best x:Nat)=>if cnt best<cnt (fsS P N f (b ||| 2 ^ x) (x+1)) then fsS P N f (b ||| 2 ^ x) (x+1) else best) b
def fsI(P:Nat→Bool)(N:Nat):Nat→Nat→Nat→Nat→Nat × Int→Nat × Int
 | 0,b,n,_,s=>if s.2<n then (b,n) else s
 | f+1,b,n,fr,s=>(j1 (b31 P N b fr)).foldl (fun (s:Nat × Int) (x:Nat)=>fsI P N f (b ||| 2 ^ x) (n+1) (x+1) s) (if s.2<n then (b,n) else s)
def o3(P:Nat→Bool)(N f b n fr:Nat)(s:Nat × Int)(k:Nat):Nat × Int:=(B8 (b31 P N b fr) k).foldl (fun (s:Nat × Int) (x:Nat)=>fsI P N f (b ||| 2 ^ x) (n+1) (x+1) s) (if s.2<n then (b,n) else s)
theorem b89{P:Nat→Bool}{N:Nat}(hN:N≤24)(f b n fr:Nat)(s:Nat × Int):fsI P N (f+1) b n fr s=o3 P N f b n fr s N:=by
 unfold o3;rw[P8 hN (cc4 P N b fr)];rfl
theorem br8{a k:Nat}(h:∀i,i<k→a.testBit i=false):B8 a k=[]:=by
 unfold B8;rw[List.filter_eq_nil_iff];intro i hi;rw[h i (List.mem_range.1 hi)];simp
theorem V5{P:Nat→Bool}{N f b n fr:Nat}{s:Nat × Int}:o3 P N f b n fr s fr=if s.2<n then (b,(n:Int)) else s:=by
 unfold o3;rw[br8 fun i hi=>by rw[T1];simp;intro _ h;omega];rfl
theorem b20{P:Nat→Bool}{N f b n fr k:Nat}{s:Nat × Int}(h1:k<N)(h2:fr≤k)(h:P (b ||| 2 ^ k)=true):o3 P N f b n fr s (k+1)=fsI P N f (b ||| 2 ^ k) (n+1) (k+1) (o3 P N f b n fr s k):=by
 unfold o3;rw[E7,show (b31 P N b fr).testBit k=true by rw[T1,h];simp[h1,h2],if_pos rfl,List.foldl_append];rfl
theorem b46{P:Nat→Bool}{N f b n fr k:Nat}{s:Nat × Int}(h:P (b ||| 2 ^ k)=false):o3 P N f b n fr s (k+1)=o3 P N f b n fr s k:=by
 unfold o3;rw[E7,show (b31 P N b fr).testBit k=false by rw[T1,h];simp];simp
theorem bh4(x i:Nat):(2 ^ x).testBit i=decide (x=i):=Nat.testBit_two_pow
theorem bl3{b x:Nat}(hb:b<2 ^ 24)(hx:x<24)(h:b.testBit x=false):cnt (b ||| 2 ^ x)=cnt b+1:=by
 have h1:=cb2 (Sub.or_left b (2 ^ x));have e:E6 (b ||| 2 ^ x) b=2 ^ x:=Nat.eq_of_testBit_eq fun i=>by
  rw[L6,Nat.testBit_or,bh4]
  by_cases hi:x=i
  · subst hi;simp[h]
  · simp[hi]
 rw[e] at h1;have h2:j1 (2 ^ x)=(List.range 24).filter (fun i=>decide (x=i)):=by unfold j1;congr 1;funext i;exact bh4 x i
 have h3:cnt (2 ^ x)=1:=by
  unfold cnt;rw[h2];have:∀n,x<n→((List.range n).filter (fun i=>decide (x=i))).length=1:=by
   intro n;induction n with
   | zero=>omega
   | succ n ih =>
    intro hn;rw[List.range_succ,List.filter_append,List.length_append];by_cases hxn:x=n
    · subst hxn;have:(List.range x).filter (fun i=>decide (x=i))=[]:=(by rw[List.filter_eq_nil_iff];intro i hi;have:=List.mem_range.1 hi;simp;omega);rw[this];simp
    · rw[ih (by omega)];simp[hxn]
  exact this 24 hx
 omega
theorem cs4(P:Nat→Bool)(N:Nat)(hN:N≤24):∀(f b fr:Nat) (s:Nat × Int),b<2 ^ fr→fr≤N→fsI P N f b (cnt b) fr s=if s.2<cnt (fsS P N f b fr) then (fsS P N f b fr,(cnt (fsS P N f b fr):Int)) else s:=by
 intro f;induction f with
 | zero=>intro b fr s _ _;rfl
 | succ f ih =>
  intro b fr s hb hfr;unfold fsI fsS
  have key:∀(L:List Nat),(∀x∈L,fr≤x∧x<N)→∀r,(L.foldl (fun (s:Nat × Int) (x:Nat)=>fsI P N f (b ||| 2 ^ x) (cnt b+1) (x+1) s) (if s.2<cnt r then (r,(cnt r:Int)) else s)) =
   (if s.2<cnt (L.foldl (fun (best x:Nat)=>if cnt best<cnt (fsS P N f (b ||| 2 ^ x) (x+1)) then fsS P N f (b ||| 2 ^ x) (x+1) else best) r) then (L.foldl (fun (best x:Nat)=>if cnt best<cnt (fsS P N f (b ||| 2 ^ x) (x+1)) then fsS P N f (b ||| 2 ^ x) (x+1) else best) r,(cnt (L.foldl (fun (best x:Nat)=>if cnt best<cnt (fsS P N f (b ||| 2 ^ x) (x+1)) then fsS P N f (b ||| 2 ^ x) (x+1) else best) r):Int)) else s):=by
   intro L;induction L with
   | nil=>intro _ r;rfl
   | cons x L ih2 =>
    intro hL r;obtain⟨hx1,hx2⟩:=hL x (by simp);have hbx:b.testBit x=false:=P7 hb hx1;have hb24:b<2 ^ 24:=Nat.lt_of_lt_of_le hb (Nat.pow_le_pow_right (by omega) (by omega));have hc:=bl3 hb24 (show x<24 by omega) hbx;have hb2:b ||| 2 ^ x<2 ^ (x+1):=Nat.or_lt_two_pow (Nat.lt_of_lt_of_le hb (Nat.pow_le_pow_right (by omega) (by omega))) (Nat.pow_lt_pow_right (by omega) (by omega))
    simp only[List.foldl_cons];have e:=fun s=>ih (b ||| 2 ^ x) (x+1) s hb2 (by omega);rw[hc] at e
    have e2:fsI P N f (b ||| 2 ^ x) (cnt b+1) (x+1) (if s.2<cnt r then (r,(cnt r:Int)) else s) =
     (if s.2<cnt (if cnt r<cnt (fsS P N f (b ||| 2 ^ x) (x+1)) then fsS P N f (b ||| 2 ^ x) (x+1) else r) then ((if cnt r<cnt (fsS P N f (b ||| 2 ^ x) (x+1)) then fsS P N f (b ||| 2 ^ x) (x+1) else r),(cnt (if cnt r<cnt (fsS P N f (b ||| 2 ^ x) (x+1)) then fsS P N f (b ||| 2 ^ x) (x+1) else r):Int)) else s):=by
     rw[e];generalize fsS P N f (b ||| 2 ^ x) (x+1)=y;by_cases h1:s.2<cnt r<;>by_cases h2:cnt r<cnt y<;>by_cases h3:s.2<cnt y<;>simp[h1,h2,h3]<;>omega
    rw[e2];exact ih2 (fun y hy=>hL y (by simp[hy])) _
  refine key _ (fun x hx=>?_) b;have:=(E8.1 hx).2;rw[T1] at this;simp at this;omega
theorem c65(P:Nat→Bool)(N:Nat)(hN:N≤24):∀(f b fr:Nat),b<2 ^ 24→fsS P N f b fr<2 ^ 24:=by
 intro f;induction f with
 | zero=>intro b fr h;exact h
 | succ f ih =>
  intro b fr h;unfold fsS;have key:∀(L:List Nat),(∀x∈L,x<24)→∀r,r<2 ^ 24→L.foldl (fun (best x:Nat)=>if cnt best<cnt (fsS P N f (b ||| 2 ^ x) (x+1)) then fsS P N f (b ||| 2 ^ x) (x+1) else best) r<2 ^ 24:=by
   intro L;induction L with
   | nil=>intro _ r hr;exact hr
   | cons x L ih2 =>
    intro hL r hr;simp only[List.foldl_cons];refine ih2 (fun y hy=>hL y (by simp[hy])) _ ?_;split
    · exact ih _ _ (Nat.or_lt_two_pow h (Nat.pow_lt_pow_right (by omega) (hL x (by simp))))
    · exact hr
  exact key _ (fun x hx=>G7 hx) b h
theorem c59{l:List Int}(h:M9 l){x:Nat}(hx:x<ord l):j9 l x 0=x:=by rw[C8];exact C5 l h x hx
theorem dw5(i:Nat):(1:Nat).testBit i=decide (i=0):=by
 have:=bh4 0 i;rw[show (2:Nat) ^ 0=1 from rfl] at this;rw[this,Bool.eq_iff_iff];simp;exact eq_comm
end Go.Zz
namespace Go.Zz
open Go.RowKit Go.Proofs
set_option maxHeartbeats 2000000
set_option maxRecDepth 4000
structure Fw(S:Nat→Prop)(w w':World):Prop where
 os:w'.os=w.os
 tape:w'.tape=w.tape
 output:w'.output=w.output
 size:w.heap.size≤w'.heap.size
 block:∀k,k<w.heap.size→¬S k→w'.heap[k]?=w.heap[k]?
theorem Fw.refl(S:Nat→Prop)(w:World):Fw S w w:=⟨rfl,rfl,rfl,Nat.le_refl _,fun _ _ _=>rfl⟩
theorem Fw.trans{S:Nat→Prop}{w w1 w2:World}(h:Fw S w w1)(k:Fw S w1 w2):Fw S w w2 :=
 ⟨k.os.trans h.os,k.tape.trans h.tape,k.output.trans h.output,Nat.le_trans h.size k.size,fun i hi hs=>(k.block i (Nat.lt_of_lt_of_le hi h.size) hs).trans (h.block i hi hs)⟩
theorem Ext.fw{w w':World}(h:Ext w w')(S:Nat→Prop):Fw S w w':=⟨h.os,h.tape,h.output,h.size,fun k hk _=>h.block k hk⟩
theorem Z8{S:Nat→Prop}{b:Nat}(h:S b)(w:World)(i:Nat)(v:Value):Fw S w (w.setCell ⟨b,i,none⟩ v) :=
 ⟨rfl,rfl,rfl,by simp,fun k _ hk=>Below.heap_setCell _ _ _ _ (fun e=>hk (by rw[e];exact h))⟩
theorem Fw.ext{S:Nat→Prop}{w0 w w':World}(h:Fw S w w')(hE:Ext w0 w)(hS:∀k,S k→w0.heap.size≤k):Ext w0 w':=by
 have hs:=hE.size;refine⟨h.os.trans hE.os,h.tape.trans hE.tape,h.output.trans hE.output,Nat.le_trans hs h.size,fun k hk=>?_⟩;rw[h.block k (Nat.lt_of_lt_of_le hk hs) fun e=>by have:=hS k e;omega];exact hE.block k hk
theorem Fw.blk{S:Nat→Prop}{w w':World}(h:Fw S w w'){c:Nat}{T:TypeId}{cs:Array Value}(hB:Blk w c T cs)(hc:¬S c):Blk w' c T cs:=by
 unfold Blk;rw[h.block c hB.lt hc];exact hB
def S3(a b c:Nat)(k:Nat):Prop:=k=a∨k=b∨k=c
end Go.Zz
namespace Go.Zz
open Go.RowKit Go.Proofs
set_option maxHeartbeats 2000000
set_option maxRecDepth 4000
end Go.Zz
namespace Go.Zz
open Go.RowKit Go.Proofs
set_option maxHeartbeats 2000000
set_option maxRecDepth 4000
theorem Nw.ne{o o':Option Nat}{w:World}{b:Nat}(h:Nw o w o')(hn:o≠some b)(hb:b<w.heap.size):o'≠some b:=by
 rcases h with h | h
 · rw[h];exact hn
 · intro e;have:=h b e;omega
theorem Nw.size{o o':Option Nat}{w w1:World}(h:Nw o w1 o')(hs:w.heap.size≤w1.heap.size):Nw o w o':=by
 rcases h with h | h
 · exact Or.inl h
 · exact Or.inr fun k hk=>Nat.le_trans hs (h k hk)
end Go.Zz
namespace Go.Zz
open Go.RowKit Go.Proofs
set_option maxHeartbeats 1000000
set_option maxRecDepth 8000
end Go.Zz
