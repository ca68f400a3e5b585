/- Numbers that are glued: plain; narrow; numbers of the reference. -/
import Derived.Test.YtdlbbpeahicakaaGreatGr31
import Derived.Test.YtdlbbpeahicakaaGreatGr3
import Derived.Test.YtdlbbpeahicakaaGreatGr14
import Derived.Test.YtdlbbpeahicakaaGreatGr5
set_option linter.unusedSimpArgs false
set_option linter.unusedVariables false
set_option linter.unnecessarySimpa false
namespace Go.Zz
open Go.RowKit Go.Proofs
set_option maxHeartbeats 400000
set_option maxRecDepth 4000
theorem rd_len(k:Nat):∀m,m<10 ^ k→(rd m).length≤k:=by
 induction k with
 | zero=>intro m h;have:m=0:=by omega
         subst this;rw[rd_zero];simp
 | succ k ih =>
  intro m h
  by_cases hm:m=0
  · subst hm;rw[rd_zero];simp
  · rw[rd_pos hm]
    have:=ih (m / 10) (by rw[Nat.pow_succ] at h;omega)
    simp;omega
theorem digs_size{m:Nat}(h:m<1000000000000):(digs m ⟨#[]⟩).size≤12:=by
 rw[digs_rd,ByteArray.size_append,strOfNums_size,List.length_reverse]
 have:=rd_len 12 m (by omega)
 have e:(⟨#[]⟩:ByteArray).size=0:=rfl
 omega
theorem digs_some{m:Nat}(h:0<m):1≤(digs m ⟨#[]⟩).size:=by
 rw[digs_rd,ByteArray.size_append,strOfNums_size,List.length_reverse,rd_pos (by omega)]
 simp;omega
theorem fmtB_size{n:Int}(h : -1≤n∧n<1000000000000):(fmtB n).size≤13:=by
 unfold fmtB
 split
 · decide
 · split
   · have:=digs_size (m:=n.natAbs) (by omega)
     rw[ByteArray.size_append]
     have e:(⟨#[45]⟩:ByteArray).size=1:=rfl
     omega
   · have:=digs_size (m:=n.natAbs) (by omega)
     omega
theorem fmtB_some{n:Int}(h : -1≤n∧n<1000000000000):1≤(fmtB n).size:=by
 unfold fmtB
 split
 · decide
 · split
   · rw[ByteArray.size_append]
     have e:(⟨#[45]⟩:ByteArray).size=1:=rfl
     omega
   · exact digs_some (by omega)
def jn(s:ByteArray)(f:Nat→ByteArray):Nat→ByteArray
 | 0=>⟨#[]⟩
 | k+1=>(if 0<k then jn s f k++s else jn s f k)++f k
theorem jn_first(s:ByteArray)(f:Nat→ByteArray):jn s f 1=⟨#[]⟩++f 0:=rfl
theorem jn_next(s:ByteArray)(f:Nat→ByteArray){k:Nat}(h:0<k):jn s f (k+1)=(jn s f k++s)++f k:=by
 show (if 0<k then _ else _)++_=_
 rw[if_pos h]
theorem jn_size(s:ByteArray)(f:Nat→ByteArray)(hs:s.size≤1):∀k,(∀i,i<k→(f i).size≤13)→(jn s f k).size≤14*k:=by
 intro k
 induction k with
 | zero=>intro _;exact Nat.le_refl _
 | succ k ih =>
  intro h
  have h1:=ih (fun i hi=>h i (by omega))
  have h2:=h k (by omega)
  unfold jn
  split<;>simp only[ByteArray.size_append]<;>omega
theorem jn_some(s:ByteArray)(f:Nat→ByteArray)(k:Nat)(h:0<k)(hf:∀i,i<k→1≤(f i).size):1≤(jn s f k).size:=by
 obtain⟨j,rfl⟩:∃j,k=j+1:=⟨k - 1,by omega⟩
 have:=hf j (by omega)
 unfold jn
 rw[ByteArray.size_append];omega
theorem str_some{t:ByteArray}(h:1≤t.size):t.toList.isEmpty=false:=by
 rw[ByteArray.toList_eq,List.isEmpty_eq_false_iff]
 intro h2
 have h3:t.data.toList.length=0:=by rw[h2];rfl
 rw[Array.length_toList] at h3
 have h4:t.size=t.data.size:=rfl
 omega
def clampF(x:Int):Int:=min (max x (-1)) 99
theorem clampF_in(x:Int) : -1≤clampF x∧clampF x<1000000000000:=by unfold clampF;omega
theorem narrow_any(x:Int)(w:World) :
 Calls Tryz.prog 129 #[.int .i64 x] w fun e w'=>e=.returned (.int .i64 (clampF x))∧w=w':=by
 rcases (by omega:x < -1∨(-1≤x∧x≤99)∨99<x) with h | ⟨h,h2⟩ | h
 · have He:Hid (clampF x = -1):=Lib.hid (by unfold clampF;omega)
   go_enter Tryz.func129,Tryz.ntmps129
   go_wp2_with fail
   go_ret
   exact⟨by rw[He.out];rfl,rfl⟩
 · have He:Hid (clampF x=x):=Lib.hid (by unfold clampF;omega)
   go_enter Tryz.func129,Tryz.ntmps129
   go_wp2_with fail
   go_ret
   exact⟨by rw[He.out];rfl,rfl⟩
 · have He:Hid (clampF x=99):=Lib.hid (by unfold clampF;omega)
   go_enter Tryz.func129,Tryz.ntmps129
   go_wp2_with fail
   go_ret
   exact⟨by rw[He.out];rfl,rfl⟩
def comma:ByteArray:=⟨#[44]⟩
def clS(l:List Int)(k:Nat):ByteArray:=fmtB (clampF (nth l k))
theorem clS_size(l:List Int)(k:Nat):(clS l k).size≤13:=fmtB_size (clampF_in _)
theorem clS_some(l:List Int)(k:Nat):1≤(clS l k).size:=fmtB_some (clampF_in _)
def shortF(l:List Int):ByteArray:=if l.length=0∨40<l.length then ⟨#[110,111,110,101]⟩ else jn comma (clS l) l.length
theorem sNumbers_any(v:Value)(l:List Int)(w:World)(h:Ints w v l) :
 Calls Tryz.prog 135 #[v] w fun e w'=>e=.returned (.string (shortF l))∧Ext w w':=by
 obtain⟨ao,c,adr,rfl,hlen,hadr,hcell⟩:=h.op
 have hix:=ints_index (c:=c) elI szI hadr
 clear hadr h
 by_cases hb:40<l.length
 · have He:Hid (shortF l=⟨#[110,111,110,101]⟩):=Lib.hid (by unfold shortF;rw[if_pos (Or.inr hb)])
   have hb2:¬l.length≤40:=by omega
   go_enter Tryz.func135,Tryz.ntmps135
   go_wp2_with fail
   go_loopw [3,4] (fun s i wr=>i=.int .i64 0∧s=.string ⟨#[]⟩∧Ext w wr) (fun _ _ _=>0)
   case atStart=>exact⟨rfl,rfl,Ext.refl _⟩
   case round =>
    obtain⟨rfl,rfl,hE⟩:=hrel
    have hp:0<l.length:=by omega
    go_wp2_with fail
    go_ret
    exact⟨ret_str He.out.symm,hE⟩
 · have hb2:l.length≤40:=by omega
   clear hb
   go_enter Tryz.func135,Tryz.ntmps135
   go_wp2_with fail
   go_loopw [3,4] (fun s i wr=>∃(k:Nat) (t:ByteArray),k≤l.length∧i=.int .i64 k∧s=.string t∧Hid (t=jn comma (clS l) k)∧Ext w wr) (fun _ i _=>l.length - (intOf i).toNat)
   case atStart=>exact⟨0,_,by omega,rfl,rfl,Lib.hid rfl,Ext.refl _⟩
   case round =>
    obtain⟨k,t,hk,rfl,rfl,Ht,hE⟩:=hrel
    have hts:t.size≤14*k:=by rw[Ht.out];exact jn_size _ _ (by decide) k fun i _=>clS_size l i
    by_cases hlt:k<l.length
    · have hck:=hcell k _ hlt hE
      rcases (by omega:nth l k ≤ -1∨(-1<nth l k∧nth l k<99)∨99≤nth l k) with h | ⟨h,h2⟩ | h
      · have hA:nth l k<99:=by omega
        have hB:¬ -1<nth l k:=by omega
        have He:Hid (clS l k=fmtB (-1)):=Lib.hid (by unfold clS;congr 1;unfold clampF;omega)
        have hcF:=sFormatInt_any (-1) (by omega)
        have hsz:(fmtB (-1)).size≤13:=fmtB_size (by omega)
        obtain⟨u,hu⟩:∃u,u=fmtB (-1):=⟨_,rfl⟩
        rw[←hu] at hsz hcF He
        clear hu
        by_cases hk0:0<k
        · have hk1:(0:Int)<k:=by omega
          go_wp2_with (with_reducible refine (hcF _).mono ?_;rintro e w1 ⟨rfl,hE1⟩)
          go_roundw
          case rel=>exact⟨k+1,_,by omega,by go_num,rfl,Lib.hid (by rw[jn_next _ _ hk0,←Ht.out,He.out];rfl),hE.trans hE1⟩
          case measure=>(simp[intOf];omega)
        · have hk1:k=0:=by omega
          subst hk1
          have hix0:∀W,(Instr.indexAt 22 (.slice ao l.length c) (.int .i64 0)).run Tryz.prog W=.ok (.pointer (some (adr 0))) W:=fun W=>by simpa using hix 0 W hlt
          go_wp2_with (with_reducible refine (hcF _).mono ?_;rintro e w1 ⟨rfl,hE1⟩)
          go_roundw
          case rel=>exact⟨1,_,by omega,rfl,rfl,Lib.hid (by rw[jn_first,He.out,Ht.out];rfl),hE.trans hE1⟩
          case measure=>(simp[intOf];omega)
      · skip
        have He:Hid (clS l k=fmtB (nth l k)):=Lib.hid (by unfold clS;congr 1;unfold clampF;omega)
        have hcF:=sFormatInt_any (nth l k) (by omega)
        have hsz:(fmtB (nth l k)).size≤13:=fmtB_size (by omega)
        obtain⟨u,hu⟩:∃u,u=fmtB (nth l k):=⟨_,rfl⟩
        rw[←hu] at hsz hcF He
        clear hu
        by_cases hk0:0<k
        · have hk1:(0:Int)<k:=by omega
          go_wp2_with (with_reducible refine (hcF _).mono ?_;rintro e w1 ⟨rfl,hE1⟩)
          go_roundw
          case rel=>exact⟨k+1,_,by omega,by go_num,rfl,Lib.hid (by rw[jn_next _ _ hk0,←Ht.out,He.out];rfl),hE.trans hE1⟩
          case measure=>(simp[intOf];omega)
        · have hk1:k=0:=by omega
          subst hk1
          have hix0:∀W,(Instr.indexAt 22 (.slice ao l.length c) (.int .i64 0)).run Tryz.prog W=.ok (.pointer (some (adr 0))) W:=fun W=>by simpa using hix 0 W hlt
          go_wp2_with (with_reducible refine (hcF _).mono ?_;rintro e w1 ⟨rfl,hE1⟩)
          go_roundw
          case rel=>exact⟨1,_,by omega,rfl,rfl,Lib.hid (by rw[jn_first,He.out,Ht.out];rfl),hE.trans hE1⟩
          case measure=>(simp[intOf];omega)
      · have hA:¬nth l k<99:=by omega
        have He:Hid (clS l k=fmtB (99)):=Lib.hid (by unfold clS;congr 1;unfold clampF;omega)
        have hcF:=sFormatInt_any (99) (by omega)
        have hsz:(fmtB (99)).size≤13:=fmtB_size (by omega)
        obtain⟨u,hu⟩:∃u,u=fmtB (99):=⟨_,rfl⟩
        rw[←hu] at hsz hcF He
        clear hu
        by_cases hk0:0<k
        · have hk1:(0:Int)<k:=by omega
          go_wp2_with (with_reducible refine (hcF _).mono ?_;rintro e w1 ⟨rfl,hE1⟩)
          go_roundw
          case rel=>exact⟨k+1,_,by omega,by go_num,rfl,Lib.hid (by rw[jn_next _ _ hk0,←Ht.out,He.out];rfl),hE.trans hE1⟩
          case measure=>(simp[intOf];omega)
        · have hk1:k=0:=by omega
          subst hk1
          have hix0:∀W,(Instr.indexAt 22 (.slice ao l.length c) (.int .i64 0)).run Tryz.prog W=.ok (.pointer (some (adr 0))) W:=fun W=>by simpa using hix 0 W hlt
          go_wp2_with (with_reducible refine (hcF _).mono ?_;rintro e w1 ⟨rfl,hE1⟩)
          go_roundw
          case rel=>exact⟨1,_,by omega,rfl,rfl,Lib.hid (by rw[jn_first,He.out,Ht.out];rfl),hE.trans hE1⟩
          case measure=>(simp[intOf];omega)
    · have hkl:k=l.length:=by omega
      subst hkl
      by_cases h0:l.length=0
      · have He:Hid (shortF l=⟨#[110,111,110,101]⟩):=Lib.hid (by unfold shortF;rw[if_pos (Or.inl h0)])
        have ht0:t=⟨#[]⟩:=by rw[Ht.out,h0];rfl
        subst ht0
        clear h0 hts
        go_wp2_with fail
        go_ret
        exact⟨ret_str He.out.symm,hE⟩
      · have He:Hid (shortF l=t):=Lib.hid (by unfold shortF;rw[if_neg (by omega),Ht.out])
        have h1:=jn_some comma (clS l) l.length (by omega) fun i _=>clS_some l i
        rw[←Ht.out] at h1
        have ht1:=str_some h1
        go_wp2_with fail
        go_ret
        exact⟨ret_str He.out.symm,hE⟩
end Go.Zz
namespace Go.Zz
open Go.RowKit Go.Proofs
set_option maxHeartbeats 400000
set_option maxRecDepth 4000
theorem infoS:(Tryz.prog.info? 9).map (fun i=>(i.zero,i.size,i.bytes))=some (some (.string ⟨#[]⟩),1,16):=by kernel_rfl
theorem undS:Tryz.prog.underlying 105=some (.slice 9):=by kernel_rfl
theorem elS:Tryz.prog.underlying 105=some (.slice (Tryz.prog.elem 105)):=by kernel_rfl
theorem szS:∀w,(Go.sizeOf (Tryz.prog.elem 105)).run Tryz.prog w=.ok 1 w:=fun w=>by kernel_rfl
def nthS(l:List ByteArray)(i:Nat):ByteArray:=l.getD i ⟨#[]⟩
def OwnS(w0 w:World)(v:Value)(l:List ByteArray):Prop :=
 w.ownsRow w0.heap.size 9 1 v l.length (l.map Value.string)∧l.length≤1000000
theorem OwnS.blk{w0 w:World}{v:Value}{l:List ByteArray}(h:OwnS w0 w v l):∀k,v.ownBlock=some k→w0.heap.size≤k∧k<w.heap.size:=h.1.lt
theorem OwnS.alloc{w0 w:World}{v:Value}{l:List ByteArray}(h:OwnS w0 w v l)(o:Obj):OwnS w0 (w.alloc o) v l:=⟨h.1.alloc o,h.2⟩
theorem OwnS.ext{w0 w w':World}{v:Value}{l:List ByteArray}(h:OwnS w0 w v l)(hE:Ext w w'):OwnS w0 w' v l:=by
 refine⟨h.1.kept (row:=none) ⟨hE.os,hE.tape,hE.output,hE.size,fun k hk _=>hE.block k hk⟩ ?_,h.2⟩
 cases hv:v.ownBlock<;>simp
theorem ownS_made{w0 w:World}(hE:Ext w0 w):OwnS w0 (w.alloc (.cells #[] 9)) (.slice (some ⟨w.heap.size,0,none⟩) 0 0) []:=by
 have:=World.ownsRow_lit (base:=w0.heap.size) (e:=9) (size:=1) w #[] 0 hE.size (by unfold maxLen;omega) (by simp)
 exact⟨by simpa using this,by simp⟩
def Strs(w:World)(v:Value)(l:List ByteArray):Prop :=
 ∃(ao:Option Addr) (c:Nat),v=.slice ao l.length c∧l.length≤1000000∧∀i,i<l.length→∃g,ao=some ⟨g,0,none⟩∧w.cell? ⟨g,i,none⟩=some (.string (nthS l i))
theorem OwnS.strs{w0 w:World}{v:Value}{l:List ByteArray}(h:OwnS w0 w v l):Strs w v l:=by
 obtain⟨h1,h2⟩:=h
 rcases h1.2 with ⟨rfl,hl⟩ | ⟨g,cap,cur,rfl,hg,hh,hc,r⟩
 · exact⟨none,0,by rw[hl],h2,by omega⟩
 · refine⟨some ⟨g,0,none⟩,cap,rfl,h2,fun i hi=>⟨g,rfl,?_⟩⟩
   rw[World.ownsRow.cellAt h1 i (by omega)]
   simp[nthS,List.getD,hi]
section
variable {ops:Array Oper} {rest:List Oper} {o:Oper} {a:Act} {Q:Exit→Act→World→Prop}
theorem wp_append1S(hg:o.guard=none)(s x:Operand)(hop:o.op=Op.call { callee:=Callee.builtin Builtin.append,args:=#[s,x],argTypes:=#[105,105] })
 (w0 W:World) (v:Value) (l:List ByteArray) (y:ByteArray) (hO:OwnS w0 W v l) (hE:Ext w0 W) (hn:l.length<1000000) (hs:a.eval s=v) (hx:a.eval x=.slice (some ⟨W.heap.size,0,none⟩) 1 1)
 (hK:∀v' w',OwnS w0 w' v' (l++[y])→Ext w0 w'→wpList Tryz.prog ops Q rest (a.put o.dst v') w') :
 wpList Tryz.prog ops Q (o :: rest) a (W.alloc (.cells #[.string y] 9)):=by
 obtain⟨i,hi,hz,hs1,hby⟩:=info_parts infoS
 refine wpList_append_own _ hg s x 105 hop w0.heap.size 9 i (.string ⟨#[]⟩) 1 16 undS hi hz hs1 hby rfl (by omega) v l.length _ hs (hO.alloc _).1 ⟨W.heap.size,0,none⟩ 1 1 [.string y] hx rfl ?_ (by simp[Value.oneCell']) (by unfold maxLen;omega) (by omega) (by have:=hE.size;simp;omega) ?_
 · exact cell_one_new _ _ _
 · intro v' w' h1 hg' _
   have hE1:=hE.alloc (.cells #[.string y] 9)
   refine hK v' w' ⟨by simpa using h1,by simp;omega⟩ (hE1.grown hg' fun k hk=>(hO.blk k hk).1)
end
theorem glued_any(v:Value)(l:List ByteArray)(s:ByteArray)(w:World)(h:Strs w v l)(hs:s.size≤1)(hl:∀i,i<l.length→(nthS l i).size≤13) :
 Calls Tryz.prog 150 #[v,.string s] w fun e w'=>e=.returned (.string (jn s (nthS l) l.length))∧w=w':=by
 obtain⟨ao,c,rfl,hlen,hcell⟩:=h
 have hix:∀(i:Nat) W,i<l.length→∃g,ao=some ⟨g,0,none⟩∧(Instr.indexAt 105 (.slice ao l.length c) (.int .i64 (i:Int))).run Tryz.prog W=.ok (.pointer (some ⟨g,i,none⟩)) W:=by
  intro i W hi
  obtain⟨g,rfl,-⟩:=hcell i hi
  refine⟨g,rfl,?_⟩
  rw[run_indexAt_slice (h:=elS),if_pos (by omega),szS]
  simp[Result.andThen,Addr.add_lit]
 have Hl:=Lib.hid hl
 clear hl
 go_enter Tryz.func150,Tryz.ntmps150
 go_wp2_with fail
 go_loop [5,10] (fun t i=>∃(k:Nat) (u:ByteArray),k≤l.length∧i=.int .i64 k∧t=.string u∧Hid (u=jn s (nthS l) k)) (fun _ i=>l.length - (intOf i).toNat)
 case atStart=>exact⟨0,_,by omega,rfl,rfl,Lib.hid rfl⟩
 case round =>
  obtain⟨k,u,hk,rfl,rfl,Hu⟩:=hrel
  have hus:u.size≤14*k:=by rw[Hu.out];exact jn_size _ _ hs k fun i hi=>Hl.out i (by omega)
  by_cases hlt:k<l.length
  · obtain⟨g,hg,hix1⟩:=hix k w hlt
    obtain⟨g',hg',hck⟩:=hcell k hlt
    have hgg:g'=g:=by rw[hg] at hg';simp only[Option.some.injEq,Addr.mk.injEq,and_true] at hg';exact hg'.symm
    subst hgg
    clear hix hcell
    subst hg
    have hys:=Hl.out k hlt
    obtain⟨y,hy⟩:∃y,y=nthS l k:=⟨_,rfl⟩
    rw[←hy] at hck hys
    have Hy:=Lib.hid hy
    clear hy
    by_cases hk0:0<k
    · have hk1:(0:Int)<k:=by omega
      go_wp2_with fail
      go_round
      case rel=>exact⟨k+1,_,by omega,by go_num,rfl,Lib.hid (by rw[jn_next _ _ hk0,←Hu.out,Hy.out])⟩
      case measure=>(simp[intOf];omega)
    · have hk1:k=0:=by omega
      subst hk1
      go_wp2_with fail
      go_round
      case rel=>exact⟨1,_,by omega,rfl,rfl,Lib.hid (by rw[jn_first,Hu.out,Hy.out];rfl)⟩
      case measure=>(simp[intOf];omega)
  · have hkl:k=l.length:=by omega
    subst hkl
    clear hix hcell
    go_wp2_with fail
    go_ret
    exact⟨ret_str Hu.out,rfl⟩
end Go.Zz
namespace Go.Zz
open Go.RowKit Go.Proofs
set_option maxHeartbeats 400000
set_option maxRecDepth 4000
theorem jn_congr(s:ByteArray)(f g:Nat→ByteArray):∀k,(∀i,i<k→f i=g i)→jn s f k=jn s g k:=by
 intro k
 induction k with
 | zero=>intro _;rfl
 | succ k ih=>intro h;unfold jn;rw[ih fun i hi=>h i (by omega),h k (by omega)]
theorem nthS_map(l:List Int)(i:Nat)(h:i<l.length):nthS (l.map fmtB) i=fmtB (nth l i):=by
 simp[nthS,nth,List.getD,h]
def numF(l:List Int):ByteArray:=if l.length=0 then ⟨#[110,111,110,101]⟩ else jn comma (fun i=>fmtB (nth l i)) l.length
theorem take_fmt(l:List Int)(k:Nat)(h:k<l.length):(l.take (k+1)).map fmtB=(l.take k).map fmtB++[fmtB (nth l k)]:=by
 rw[List.take_add_one,List.map_append]
 simp[nth,List.getD,h]
theorem numbers_any(v:Value)(l:List Int)(w:World)(h:Ints w v l)(hr:∀i,i<l.length → -1≤nth l i∧nth l i<1000000000000)(hl:l.length≤1000) :
 Calls Tryz.prog 72 #[v] w fun e w'=>e=.returned (.string (numF l))∧Ext w w':=by
 obtain⟨ao,c,adr,rfl,hlen,hadr,hcell⟩:=h.op
 have hix:=ints_index (c:=c) elI szI hadr
 clear hadr h
 have Hr:=Lib.hid hr
 clear hr
 have hO0:=ownS_made (Ext.refl w)
 have hE0:=(Ext.refl w).alloc (.cells #[] 9)
 by_cases h0:l.length=0
 · have He:Hid (numF l=⟨#[110,111,110,101]⟩):=Lib.hid (by unfold numF;rw[if_pos h0])
   go_enter Tryz.func72,Tryz.ntmps72
   go_wp2_with fail
   go_ret
   exact⟨ret_str He.out.symm,Ext.refl _⟩
 · have h00:((l.length:Int) == 0)=false:=by rw[beq_eq_false_iff_ne];omega
   have He:Hid (numF l=jn comma (nthS (l.map fmtB)) (l.map fmtB).length):=Lib.hid (by
    unfold numF;rw[if_neg h0,List.length_map]
    exact jn_congr _ _ _ _ fun i hi=>(nthS_map l i hi).symm)
   go_enter Tryz.func72,Tryz.ntmps72
   go_wp2_with fail
   go_loopw [3,12] (fun v i wr=>∃k:Nat,k≤l.length∧i=.int .i64 k∧OwnS w wr v ((l.take k).map fmtB)∧Ext w wr) (fun _ i _=>l.length - (intOf i).toNat)
   case atStart=>exact⟨0,by omega,rfl,hO0,hE0⟩
   case round =>
    obtain⟨k,hk,rfl,hO,hE⟩:=hrel
    by_cases hlt:k<l.length
    · have hck:=hcell k _ hlt hE
      have hrk:=Hr.out k hlt
      have hcI:=FormatInt_any (nth l k) hrk
      have hlk:((l.take k).map fmtB).length<1000000:=by rw[List.length_map,List.length_take];omega
      go_wp2_with (first | (go_at_call 66;with_reducible refine (hcI _).mono ?_;rintro e wc ⟨rfl,hEc⟩) | (at_builtin;refine wp_append1S rfl _ _ rfl w _ _ _ _ (hO.ext hEc) (hE.trans hEc) hlk rfl rfl ?_;intro v1 w1 hO1 hE1))
      go_roundw
      case rel=>exact⟨k+1,by omega,by go_num,by rw[take_fmt _ _ hlt];exact hO1,hE1⟩
      case measure=>(simp[intOf];omega)
    · have hkl:k=l.length:=by omega
      subst hkl
      rw[List.take_length] at hO
      have hS:=hO.strs
      have hc:=glued_any _ (l.map fmtB) comma _ hS (by decide) (fun i hi=>by
       rw[List.length_map] at hi
       rw[nthS_map l i hi];exact fmtB_size (Hr.out i hi))
      go_wp2_with (refine hc.mono ?_;rintro e w1 ⟨rfl,rfl⟩)
      go_ret
      exact⟨ret_str (by rw[He.out,List.length_map]),hE⟩
theorem shortF_eq(l:List Int)(h:l.length≤40):shortF l=numF (l.map clampF):=by
 unfold shortF numF
 rw[List.length_map]
 by_cases h0:l.length=0
 · rw[if_pos (Or.inl h0),if_pos h0]
 · rw[if_neg (by omega),if_neg h0]
   exact jn_congr _ _ _ _ fun i hi=>by simp[clS,nth,List.getD,hi]
theorem take_clamp(l:List Int)(k:Nat)(h:k<l.length):(l.take (k+1)).map clampF=(l.take k).map clampF++[clampF (nth l k)]:=by
 rw[List.take_add_one,List.map_append]
 simp[nth,List.getD,h]
theorem nth_map_clamp(l:List Int)(i:Nat)(h:i<(l.map clampF).length) : -1≤nth (l.map clampF) i∧nth (l.map clampF) i<1000000000000:=by
 rw[List.length_map] at h
 have e:nth (l.map clampF) i=clampF (nth l i):=by simp[nth,List.getD,h]
 rw[e];exact clampF_in _
theorem short_any(v:Value)(l:List Int)(w:World)(h:Ints w v l) :
 Calls Tryz.prog 130 #[v] w fun e w'=>e=.returned (.string (shortF l))∧Ext w w':=by
 obtain⟨ao,c,adr,rfl,hlen,hadr,hcell⟩:=h.op
 have hix:=ints_index (c:=c) elI szI hadr
 clear hadr h
 have hO0:=own_made (TI:=3) (n:=0) (by omega) (Ext.refl w) [] rfl
 have hE0:=(Ext.refl w).alloc (.cells #[] 3)
 by_cases h0:40<l.length
 · have He:Hid (shortF l=⟨#[110,111,110,101]⟩):=Lib.hid (by unfold shortF;rw[if_pos (Or.inr h0)])
   have h1:(40:Int)<(l.length:Int):=by omega
   go_enter Tryz.func130,Tryz.ntmps130
   go_wp2_with fail
   go_ret
   exact⟨ret_str He.out.symm,Ext.refl _⟩
 · have h1:¬(40:Int)<(l.length:Int):=by omega
   have h2:decide ((40:Int)<(l.length:Int))=false:=by simp;omega
   have He:=Lib.hid (shortF_eq l (by omega))
   go_enter Tryz.func130,Tryz.ntmps130
   go_wp2_with fail
   go_loopw [3,12] (fun v i wr=>∃k:Nat,k≤l.length∧i=.int .i64 k∧Own 3 w wr v ((l.take k).map clampF)∧Ext w wr) (fun _ i _=>l.length - (intOf i).toNat)
   case atStart=>exact⟨0,by omega,rfl,hO0,hE0⟩
   case round =>
    obtain⟨k,hk,rfl,hO,hE⟩:=hrel
    by_cases hlt:k<l.length
    · have hck:=hcell k _ hlt hE
      have hcI:=narrow_any (nth l k)
      have hlk:((l.take k).map clampF).length<17592186044416:=by rw[List.length_map,List.length_take];omega
      go_wp2_with (first | (go_at_call 129;with_reducible refine (hcI _).mono ?_;rintro e wc ⟨rfl,hEc⟩;subst hEc) | (at_builtin;refine wp_append1 slI rfl _ _ rfl w _ _ _ _ hO hE hlk rfl rfl ?_;intro v1 w1 hO1 hE1))
      go_roundw
      case rel=>exact⟨k+1,by omega,by go_num,by rw[take_clamp _ _ hlt];exact hO1,hE1⟩
      case measure=>(simp[intOf];omega)
    · have hkl:k=l.length:=by omega
      subst hkl
      rw[List.take_length] at hO
      have hI:=hO.ints
      have hc:=numbers_any _ (l.map clampF) _ hI (fun i hi=>nth_map_clamp l i hi) (by rw[List.length_map];omega)
      go_wp2_with (refine hc.mono ?_;rintro e w1 ⟨rfl,hE1⟩)
      go_ret
      exact⟨ret_str He.out.symm,hE.trans hE1⟩
end Go.Zz
namespace Go.Zz
open Go.RowKit Go.Proofs
set_option maxHeartbeats 400000
set_option maxRecDepth 4000
def fsF(l:List Int)(a:Int):ByteArray:=if isSetB l a then numF (castL (elems a.toNat)) else ⟨#[]⟩
theorem fsF_no{l:List Int}{a:Int}(h:isSetB l a=false):fsF l a=⟨#[]⟩:=by unfold fsF;rw[h];rfl
theorem fsF_nat{l:List Int}{n:Nat}(h:isSetB l n=true):fsF l n=numF (castL (elems n)):=by unfold fsF;rw[h];rfl
theorem elems_in(n i:Nat)(h:i<(castL (elems n)).length) : -1≤nth (castL (elems n)) i∧nth (castL (elems n)) i<1000000000000:=by
 rw[castL_len] at h
 have e:nth (castL (elems n)) i=((elems n)[i]:Int):=by simp[nth,castL,List.getD,h]
 have:=elems_lt (List.getElem_mem h)
 rw[e];omega
theorem FormatSet_any(v:Value)(l:List Int)(a:Int)(w:World)(h:Ints w v l) :
 Calls Tryz.prog 68 #[.agg #[v],.int .i64 a] w fun e w'=>e=.returned (.string (fsF l a))∧Ext w w':=by
 have hE0:=(Ext.refl w).alloc (.cells #[v] 27)
 have hE:=Ext.refl (w.alloc (.cells #[v] 27))
 have hb:=box_cell w v 27
 have hg:∀W,Ext (w.alloc (.cells #[v] 27)) W→Ints W v l:=fun W hW=>h.ext (hE0.trans hW)
 clear h
 cases hs:isSetB l a
 · have He:=Lib.hid (fsF_no hs)
   go_enter Tryz.func68,Tryz.ntmps68
   go_wp2_with (first | (go_at_call 152;refine (IsSet_any _ _ _ _ (hg _ hE)).mono ?_;rintro e w' ⟨rfl,hE'⟩;replace hE:=hE.trans hE';clear hE'))
   go_ret
   exact⟨ret_str He.out.symm,hE0.trans hE⟩
 · obtain⟨n,rfl,-,hn,-⟩:=isSetB_nat hs
   have He:=Lib.hid (fsF_nat hs)
   have hc:=fun v W (hI:Ints W v (castL (elems n)))=>numbers_any v (castL (elems n)) W hI (elems_in n) (by rw[castL_len];have:=elems_len n;omega)
   go_enter Tryz.func68,Tryz.ntmps68
   go_wp2_with (first | (go_at_call 152;refine (IsSet_any _ _ _ _ (hg _ hE)).mono ?_;rintro e w' ⟨rfl,hE'⟩;replace hE:=hE.trans hE';clear hE') | (go_at_call 153;refine (members_any _ (hn) _).mono ?_;rintro e w1 ⟨v1,rfl,hL,hE1⟩;obtain⟨aoL,cL,adrL,rfl,hadrL,hcellL⟩:=hL.ints.nats;have hixL:=ints_index (c:=cL) elI szI hadrL;clear hadrL) | (go_at_call 72;refine (hc _ _ hL.ints).mono ?_;rintro e w2 ⟨rfl,hE2⟩))
   go_ret
   exact⟨ret_str He.out.symm,((hE0.trans hE).trans hE1).trans hE2⟩
end Go.Zz
namespace Go.Zz
open Go.RowKit Go.Proofs
set_option maxHeartbeats 400000
set_option maxRecDepth 4000
theorem loF_in(l:List Int)(a:Int)(i:Nat)(h:i<(loF l a).length) : -1≤nth (loF l a) i∧nth (loF l a) i<1000000000000:=by
 cases hs:isSetB l a
 · rw[loF_no hs] at h;simp at h
 · obtain⟨n,rfl,-,hn,-⟩:=isSetB_nat hs
   rw[loF_nat hs] at h ⊢
   exact elems_in n i h
theorem loF_len(l:List Int)(a:Int):(loF l a).length≤24:=by
 unfold loF
 split
 · rw[castL_len];exact elems_len _
 · simp
theorem fsF_lo(l:List Int)(a:Int):fsF l a=if (loF l a).length=0 then (if isSetB l a then ⟨#[110,111,110,101]⟩ else ⟨#[]⟩) else jn comma (fun i=>fmtB (nth (loF l a) i)) (loF l a).length:=by
 cases hs:isSetB l a
 · rw[fsF_no hs,loF_no hs];rfl
 · unfold fsF loF
   rw[hs]
   show numF _=_
   unfold numF
   rfl
theorem sFormatSet_any(v:Value)(l:List Int)(a:Int)(w:World)(h:Ints w v l) :
 Calls Tryz.prog 54 #[.agg #[v],.int .i64 a] w fun e w'=>e=.returned (.string (fsF l a))∧Ext w w':=by
 have hE0:=(Ext.refl w).alloc (.cells #[v] 27)
 have hE:=Ext.refl (w.alloc (.cells #[v] 27))
 have hb:=box_cell w v 27
 have hg:∀W,Ext (w.alloc (.cells #[v] 27)) W→Ints W v l:=fun W hW=>h.ext (hE0.trans hW)
 clear h
 have hin:=loF_in l a
 have hlen:=loF_len l a
 have Hf:=Lib.hid (fsF_lo l a)
 have Hin:=Lib.hid hin
 clear hin
 have hc:=fun W (hI:Ints W v l)=>sListOf_any v l a W hI
 go_enter Tryz.func54,Tryz.ntmps54
 go_wp2_with (go_at_call 142;refine (hc _ (hg _ hE)).mono ?_;rintro e w1 ⟨u,rfl,hO,hE1⟩;obtain⟨aoL,cL,adrL,rfl,hlenL,hadrL,hcellL⟩:=hO.ints.op;have hixL:=ints_index (c:=cL) elI szI hadrL)
 clear hadrL hO
 obtain⟨m,hm⟩:∃m,m=loF l a:=⟨_,rfl⟩
 rw[←hm] at hlen hlenL hcellL hixL Hf Hin ⊢
 clear hm
 go_loopw [5,7] (fun s i wr=>∃(k:Nat) (t:ByteArray),k≤m.length∧i=.int .i64 k∧s=.string t∧Hid (t=jn comma (fun i=>fmtB (nth m i)) k)∧Ext w1 wr) (fun _ i _=>m.length - (intOf i).toNat)
 case atStart=>exact⟨0,_,by omega,rfl,rfl,Lib.hid rfl,Ext.refl _⟩
 case round =>
  obtain⟨k,t,hk,rfl,rfl,Ht,hEr⟩:=hrel
  have hts:t.size≤14*k:=by rw[Ht.out];exact jn_size _ _ (by decide) k fun i hi=>fmtB_size (Hin.out i (by omega))
  by_cases hlt:k<m.length
  · have hck:=hcellL k _ hlt hEr
    have hcF:=sFormatInt_any (nth m k) (Hin.out k hlt)
    have hsz:(fmtB (nth m k)).size≤13:=fmtB_size (Hin.out k hlt)
    obtain⟨u,hu⟩:∃u,u=fmtB (nth m k):=⟨_,rfl⟩
    rw[←hu] at hsz hcF
    have He:=Lib.hid hu
    clear hu
    by_cases hk0:0<k
    · have hk1:(0:Int)<k:=by omega
      go_wp2_with (refine (hcF _).mono ?_;rintro e w2 ⟨rfl,hE2⟩)
      go_roundw
      case rel=>exact⟨k+1,_,by omega,by go_num,rfl,Lib.hid (by rw[jn_next _ _ hk0,←Ht.out,He.out];rfl),hEr.trans hE2⟩
      case measure=>(simp[intOf];omega)
    · have hk1:k=0:=by omega
      subst hk1
      have hix0:∀W,(Instr.indexAt 22 (.slice aoL m.length cL) (.int .i64 0)).run Tryz.prog W=.ok (.pointer (some (adrL 0))) W:=fun W=>by simpa using hixL 0 W hlt
      go_wp2_with (refine (hcF _).mono ?_;rintro e w2 ⟨rfl,hE2⟩)
      go_roundw
      case rel=>exact⟨1,_,by omega,rfl,rfl,Lib.hid (by rw[jn_first,He.out,Ht.out];rfl),hEr.trans hE2⟩
      case measure=>(simp[intOf];omega)
  · have hkl:k=m.length:=by omega
    subst hkl
    have hER:=(hE0.trans hE1).trans hEr
    have hEb:=hE1.trans hEr
    by_cases h0:m.length=0
    · have ht0:t=⟨#[]⟩:=by rw[Ht.out,h0];rfl
      subst ht0
      have Hf2:Hid (fsF l a=if isSetB l a then ⟨#[110,111,110,101]⟩ else ⟨#[]⟩):=Lib.hid (by rw[Hf.out,if_pos h0])
      have hcS:=sIsSet_any v l a _ (hg _ hEb)
      clear h0 hts Hf
      cases hs:isSetB l a
      all_goals
       rw[hs] at Hf2 hcS
       go_wp2_with (refine hcS.mono ?_;rintro e w3 ⟨rfl,hE3⟩)
       go_ret
       exact⟨ret_str Hf2.out.symm,hER.trans hE3⟩
    · have He:Hid (fsF l a=t):=Lib.hid (by rw[Hf.out,if_neg h0,Ht.out])
      have h1:=jn_some comma (fun i=>fmtB (nth m i)) m.length (by omega) fun i hi=>fmtB_some (Hin.out i hi)
      rw[←Ht.out] at h1
      have ht1:=str_some h1
      go_wp2_with fail
      go_ret
      exact⟨ret_str He.out.symm,hER⟩
end Go.Zz
namespace Go.Zz
open Go.RowKit Go.Proofs
set_option maxHeartbeats 400000
set_option maxRecDepth 4000
def ex:ByteArray:=⟨#[120]⟩
def fgF(l:List Int):ByteArray:=if isGrp l then (if l.length=0 then ⟨#[49]⟩ else jn ex (fun i=>fmtB (nth l i)) l.length) else ⟨#[]⟩
theorem fgF_no{l:List Int}(h:isGrp l=false):fgF l=⟨#[]⟩:=by unfold fgF;rw[h];rfl
theorem fgF_yes{l:List Int}(h:isGrp l=true):fgF l=if l.length=0 then ⟨#[49]⟩ else jn ex (fun i=>fmtB (nth l i)) l.length:=by unfold fgF;rw[h];rfl
theorem grp_in{l:List Int}(h:isGrp l=true)(i:Nat)(hi:i<l.length) : -1≤nth l i∧nth l i<1000000000000:=by
 have:=isGrp_nth h hi;omega
theorem FormatGroup_any(v:Value)(l:List Int)(w:World)(h:Ints w v l) :
 Calls Tryz.prog 132 #[.agg #[v]] w fun e w'=>e=.returned (.string (fgF l))∧Ext w w':=by
 have hop:=h.op
 have hE0:=(Ext.refl w).alloc (.cells #[v] 27)
 have hE:=Ext.refl (w.alloc (.cells #[v] 27))
 have hb:=box_cell w v 27
 have hg:∀W,Ext (w.alloc (.cells #[v] 27)) W→Ints W v l:=fun W hW=>h.ext (hE0.trans hW)
 clear h
 obtain⟨ao,c,adr,rfl,hlen,hadr,hcell⟩:=hop
 have hix:=ints_index (c:=c) elI szI hadr
 clear hadr
 cases hgr:isGrp l
 · have He:=Lib.hid (fgF_no hgr)
   go_enter Tryz.func132,Tryz.ntmps132
   go_wp2_with (first | (go_at_call 131;refine (IsGroup_any _ _ _ (hg _ hE)).mono ?_;rintro e w' ⟨rfl,hE'⟩;replace hE:=hE.trans hE';clear hE'))
   go_ret
   exact⟨ret_str He.out.symm,hE0.trans hE⟩
 · have Hf:=Lib.hid (fgF_yes hgr)
   have Hr:=Lib.hid (grp_in hgr)
   by_cases h0:l.length=0
   · have He:Hid (fgF l=⟨#[49]⟩):=Lib.hid (Hf.out.trans (if_pos h0))
     have h00:((l.length:Int) == 0)=true:=by rw[beq_iff_eq];omega
     clear h0 Hf
     go_enter Tryz.func132,Tryz.ntmps132
     go_wp2_with (first | (go_at_call 131;refine (IsGroup_any _ _ _ (hg _ hE)).mono ?_;rintro e w' ⟨rfl,hE'⟩;replace hE:=hE.trans hE';clear hE'))
     go_ret
     exact⟨ret_str He.out.symm,hE0.trans hE⟩
   · have h00:((l.length:Int) == 0)=false:=by rw[beq_eq_false_iff_ne];omega
     go_enter Tryz.func132,Tryz.ntmps132
     go_wp2_with (go_at_call 131;refine (IsGroup_any _ _ _ (hg _ hE)).mono ?_;rintro e wq ⟨rfl,hE1⟩;have hb2:=hb _ ((hE.trans hE1).alloc (.cells #[] 9)))
     have He:Hid (fgF l=jn ex (nthS (l.map fmtB)) l.length):=Lib.hid ((Hf.out.trans (if_neg h0)).trans (jn_congr _ _ _ _ fun i hi=>(nthS_map l i hi).symm))
     have hlen3:l.length≤3:=isGrp_len hgr
     clear hb2
     have hO0:=ownS_made (Ext.refl wq)
     have hEq0:=(Ext.refl wq).alloc (.cells #[] 9)
     go_loopw [3,17] (fun v i wr=>∃k:Nat,k≤l.length∧i=.int .i64 k∧OwnS wq wr v ((l.take k).map fmtB)∧Ext wq wr) (fun _ i _=>l.length - (intOf i).toNat)
     case atStart=>exact⟨0,by omega,rfl,hO0,hEq0⟩
     case round =>
      obtain⟨k,hk,rfl,hO,hEr⟩:=hrel
      by_cases hlt:k<l.length
      · have hck:=hcell k _ hlt ((hE0.trans hE1).trans hEr)
        have hcI:=FormatInt_any (nth l k) (Hr.out k hlt)
        have hlk:((l.take k).map fmtB).length<1000000:=by rw[List.length_map,List.length_take];omega
        go_wp2_with (first | (go_at_call 66;with_reducible refine (hcI _).mono ?_;rintro e wc ⟨rfl,hEc⟩) | (at_builtin;refine wp_append1S rfl _ _ rfl wq _ _ _ _ (hO.ext hEc) (hEr.trans hEc) hlk rfl rfl ?_;intro v1 w1 hO1 hEd))
        go_roundw
        case rel=>exact⟨k+1,by omega,by go_num,by rw[take_fmt _ _ hlt];exact hO1,hEd⟩
        case measure=>(simp[intOf];omega)
      · have hkl:k=l.length:=by omega
        subst hkl
        rw[List.take_length] at hO
        have hS:=hO.strs
        have hc:=glued_any _ (l.map fmtB) ex _ hS (by decide) (fun i hi=>by
         rw[List.length_map] at hi
         rw[nthS_map l i hi];exact fmtB_size (Hr.out i hi))
        go_wp2_with (refine hc.mono ?_;rintro e w1 ⟨rfl,rfl⟩)
        go_ret
        exact⟨ret_str He.out.symm,(hE0.trans hE1).trans hEr⟩
end Go.Zz
namespace Go.Zz
open Go.RowKit Go.Proofs
set_option maxHeartbeats 400000
set_option maxRecDepth 4000
theorem sFormatGroup_no(v:Value)(l:List Int)(w:World)(h:Ints w v l)(hgr:isGrp l=false) :
 Calls Tryz.prog 134 #[.agg #[v]] w fun e w'=>e=.returned (.string (fgF l))∧Ext w w':=by
 have hop:=h.op
 have hE0:=(Ext.refl w).alloc (.cells #[v] 27)
 have hE:=Ext.refl (w.alloc (.cells #[v] 27))
 have hb:=box_cell w v 27
 have hg:∀W,Ext (w.alloc (.cells #[v] 27)) W→Ints W v l:=fun W hW=>h.ext (hE0.trans hW)
 clear h
 obtain⟨ao,c,adr,rfl,hlen,-,-⟩:=hop
 have He:=Lib.hid (fgF_no hgr)
 have hcG:=fun W (hW:Ext (w.alloc (.cells #[.slice ao l.length c] 27)) W)=>sIsGroup_any _ l W (hg W hW)
 rw[hgr] at hcG
 go_enter Tryz.func134,Tryz.ntmps134
 go_wp2_with fail
 go_loopw [3,4] (fun s i wr=>i=.int .i64 0∧s=.string ⟨#[]⟩∧Ext (w.alloc (.cells #[.slice ao l.length c] 27)) wr) (fun _ _ _=>0)
 case atStart=>exact⟨rfl,rfl,Ext.refl _⟩
 case round =>
  obtain⟨rfl,rfl,hEr⟩:=hrel
  have hbr:=hb _ hEr
  by_cases hp:0<(l.length:Int)
  · have hpB:decide (0<(l.length:Int))=true:=by simpa using hp
    go_wp2_with (first | (refine (hcG _ (hEr.trans hE3)).mono ?_;rintro e w4 ⟨rfl,hE4⟩) | (refine (hcG _ hEr).mono ?_;rintro e w3 ⟨rfl,hE3⟩;have hbr3:=hb _ (hEr.trans hE3)))
    go_ret
    exact⟨ret_str He.out.symm,((hE0.trans hEr).trans hE3).trans hE4⟩
  · have hpB:decide (0<(l.length:Int))=false:=by simpa using hp
    go_wp2_with (refine (hcG _ hEr).mono ?_;rintro e w3 ⟨rfl,hE3⟩)
    go_ret
    exact⟨ret_str He.out.symm,(hE0.trans hEr).trans hE3⟩
theorem sFormatGroup_yes(v:Value)(l:List Int)(w:World)(h:Ints w v l)(hgr:isGrp l=true) :
 Calls Tryz.prog 134 #[.agg #[v]] w fun e w'=>e=.returned (.string (fgF l))∧Ext w w':=by
 have hop:=h.op
 have hE0:=(Ext.refl w).alloc (.cells #[v] 27)
 have hE:=Ext.refl (w.alloc (.cells #[v] 27))
 have hb:=box_cell w v 27
 have hg:∀W,Ext (w.alloc (.cells #[v] 27)) W→Ints W v l:=fun W hW=>h.ext (hE0.trans hW)
 clear h
 obtain⟨ao,c,adr,rfl,hlen,hadr,hcell⟩:=hop
 have hix:=ints_index (c:=c) elI szI hadr
 clear hadr
 have Hf:=Lib.hid (fgF_yes hgr)
 have Hr:=Lib.hid (grp_in hgr)
 have hcG:=fun W (hW:Ext (w.alloc (.cells #[.slice ao l.length c] 27)) W)=>sIsGroup_any _ l W (hg W hW)
 have hl3:=isGrp_len hgr
 rw[hgr] at hcG
 go_enter Tryz.func134,Tryz.ntmps134
 go_wp2_with fail
 go_loopw [3,4] (fun s i wr=>∃(k:Nat) (t:ByteArray),k≤l.length∧i=.int .i64 k∧s=.string t∧Hid (t=jn ex (fun i=>fmtB (nth l i)) k)∧Ext (w.alloc (.cells #[.slice ao l.length c] 27)) wr) (fun _ i _=>l.length - (intOf i).toNat)
 case atStart=>exact⟨0,_,by omega,rfl,rfl,Lib.hid rfl,Ext.refl _⟩
 case round =>
  obtain⟨k,t,hk,rfl,rfl,Ht,hEr⟩:=hrel
  have hbr:=hb _ hEr
  have hts:t.size≤14*k:=by rw[Ht.out];exact jn_size _ _ (by decide) k fun i hi=>fmtB_size (Hr.out i (by omega))
  by_cases hlt:k<l.length
  · have hcF:=sFormatInt_any (nth l k) (Hr.out k hlt)
    have hsz:(fmtB (nth l k)).size≤13:=fmtB_size (Hr.out k hlt)
    obtain⟨u,hu⟩:∃u,u=fmtB (nth l k):=⟨_,rfl⟩
    rw[←hu] at hsz hcF
    have He:=Lib.hid hu
    clear hu
    by_cases hk0:0<k
    · have hk1:(0:Int)<k:=by omega
      go_wp2_with (first | (go_at_call 52;refine (hcF _).mono ?_;rintro e w4 ⟨rfl,hE4⟩) | (refine (hcG _ hEr).mono ?_;rintro e w3 ⟨rfl,hE3⟩;have hbr3:=hb _ (hEr.trans hE3);have hck3:=hcell k _ hlt ((hE0.trans hEr).trans hE3)))
      go_roundw
      case rel=>exact⟨k+1,_,by omega,by go_num,rfl,Lib.hid (by rw[jn_next _ _ hk0,←Ht.out,He.out];rfl),(hEr.trans hE3).trans hE4⟩
      case measure=>(simp[intOf];omega)
    · have hk1:k=0:=by omega
      subst hk1
      have hix0:∀W,(Instr.indexAt 22 (.slice ao l.length c) (.int .i64 0)).run Tryz.prog W=.ok (.pointer (some (adr 0))) W:=fun W=>by simpa using hix 0 W hlt
      go_wp2_with (first | (go_at_call 52;refine (hcF _).mono ?_;rintro e w4 ⟨rfl,hE4⟩) | (refine (hcG _ hEr).mono ?_;rintro e w3 ⟨rfl,hE3⟩;have hbr3:=hb _ (hEr.trans hE3);have hck3:=hcell 0 _ hlt ((hE0.trans hEr).trans hE3)))
      go_roundw
      case rel=>exact⟨1,_,by omega,rfl,rfl,Lib.hid (by rw[jn_first,He.out,Ht.out];rfl),(hEr.trans hE3).trans hE4⟩
      case measure=>(simp[intOf];omega)
  · have hkl:k=l.length:=by omega
    subst hkl
    have hER:=hE0.trans hEr
    have hcS:=hcG _ hEr
    by_cases h0:l.length=0
    · have ht0:t=⟨#[]⟩:=by rw[Ht.out,h0];rfl
      subst ht0
      have Hf2:Hid (fgF l=⟨#[49]⟩):=Lib.hid (by rw[Hf.out,if_pos h0])
      clear h0 hts Hf
      go_wp2_with (refine hcS.mono ?_;rintro e w3 ⟨rfl,hE3⟩)
      go_ret
      exact⟨ret_str Hf2.out.symm,hER.trans hE3⟩
    · have He:Hid (fgF l=t):=Lib.hid (by rw[Hf.out,if_neg h0,Ht.out])
      have h1:=jn_some ex (fun i=>fmtB (nth l i)) l.length (by omega) fun i hi=>fmtB_some (Hr.out i hi)
      rw[←Ht.out] at h1
      have ht1:=str_some h1
      go_wp2_with fail
      go_ret
      exact⟨ret_str He.out.symm,hER⟩
theorem sFormatGroup_any(v:Value)(l:List Int)(w:World)(h:Ints w v l) :
 Calls Tryz.prog 134 #[.agg #[v]] w fun e w'=>e=.returned (.string (fgF l))∧Ext w w':=by
 cases hg:isGrp l
 · exact sFormatGroup_no v l w h hg
 · exact sFormatGroup_yes v l w h hg
end Go.Zz
namespace Go.Zz
open Go.RowKit Go.Proofs
set_option maxHeartbeats 4000000
set_option maxRecDepth 20000
end Go.Zz
