/- A part of the proof. -/
import Derived.ArgAppend
import Derived.Below
import Derived.ChangeSame
import Derived.ControlIn
import Derived.Deep.Fields
import Derived.Deep.OwnRows
import Derived.Deep.RegionLaw
import Derived.Deep.Slices
import Derived.Laws.AppendOwnNone
import Derived.Laws.OwnMore
import Derived.Lib.Hide
import Derived.Maps.AppendAt
import Derived.Maps.Range
import Derived.OneCell
import Derived.OrdersIn
import Derived.OwnWalk
import Derived.OwnWalkIn
import Derived.ProofKit
import Derived.RangeFuncBox
import Derived.RangeFuncCalls
import Derived.WalkKit
import Derived.WalkSmall
import Derived.WalkSpells
import Derived.Test.YtgadhchejmlfjaaGreatDoorRows
import Derived.Deep.QuietTactic
import Derived.BigQuiet
import Derived.BigGuard
import Derived.WalkLawsBesides
import Derived.Outline
import Derived.Lib.ItoaLen
import Derived.Lib.Split
import Derived.KernelRfl
import Derived.RegionTactic
import Derived.BigRegion
import Derived.ChangeAlike
import Derived.Deep.LoopGhost
import Derived.WalkMore
import Derived.Deep.DeepCutAuto
import Derived.Deep.RegionWith
import Derived.LoopIn
import Derived.LoopNIn
import Derived.OpenShut
import Derived.RangeFuncLeaves
import Derived.Shelf.Abstract
import Derived.Stop.RegionWithIn
import Derived.TacticsInMore
import Derived.Deep.RegionHeld3
import Derived.Lib.SliceRun
import Derived.OrdersHeld
import Derived.Deep.RegionHeld
import Derived.Test.YtgadhchejmlfjaaGreatDoorTie
import Derived.Test.YtgadhchejmlfjaaGreatDoorCards
import Derived.JoinedOf
import Derived.SevenTiedAt
import Derived.Stop.Joined
import Derived.Laws.ResultCell
import Derived.Laws.StructEq
import Derived.Deep.DrawnRows
import Derived.StillTailTactics
import Derived.Shelf.Strings.Builder1
import Derived.Shelf.Strings.OnBuilder
import Derived.Shelf.Small.Wraps
import Derived.Shelf.Strconv.Itoa3
import Derived.Shelf.Strconv.Itoa4
import Derived.Shelf.LaysM
import Derived.Shelf.Strings.Cut
import Derived.Shelf.Strings.Split
import Derived.Deep.MidRow
import Derived.LaidEqlPtr
import Derived.Laws.MakeOwn
import Derived.Shelf.Strings.BuilderK
import Derived.Deep.CutRange
import Derived.Laws.CopyOwn
import Derived.Lib.SlBytesRow
import Derived.ChangeOld
import Derived.ShutString
import Derived.LaidLaws
import Derived.LaidHandle
import Derived.Lay
import Derived.Lib.LaidTab
import Derived.Lib.LaidU8
import Derived.Shelf.Vars
set_option linter.unusedVariables false
set_option maxRecDepth 20000
set_option maxHeartbeats 16000000
open Go.Value renaming int->I,pointer->J,slice->Y
open Go.IntKind renaming i64->U
open Option renaming none->N,some->Z
set_option linter.defProp false
open Bool renaming true->tZ
open Go renaming TypeId->uf,Value->tR,World->rO
open Go.Obj renaming cells->uj
open Go.RowKit renaming Below->tS
open Go.RowKit.Below renaming refl->tU
open Go.Value renaming ownBlock->ud
open Go.World renaming setCell->tV
open Go.RowKit
namespace Go
def Aa:=@Go.Lib.hid
def Ab:=@And.intro
def Ac:=@List.getElem?_cons_zero
def Ad:=@List.getElem?_toArray
def Ae:=@List.getElem?_eq_getElem
def Af:=@List.getElem?_eq_some_iff
def Ag:=@List.getElem?_cons_succ
def Ah:=@if_neg
def Ai:=@if_pos
def Aj:=@List.getElem?_set_self
def Ak:=@Option.some.injEq
def Al:=@Nat.le_refl
def Am:=@Int.toNat_natCast
def An:=@Nat.lt_of_lt_of_le
def Ao:=@List.getElem?_set_ne
def Ap:=@Nat.zero_le
def Aq:=@congrArg
def Ar:=@List.getElem?_append_right
def As:=@Go.Value.slice.injEq
def Au:=@List.length_append
def Av:=@List.length_cons
def Aw:=@List.getElem?_append_left
def Ax:=@Option.bind_eq_some_iff
def Ay:=@List.getElem?_set
def Az:=@beq_eq_false_iff_ne
def AA:=@Nat.le_trans
def AB:=@Go.World.ownsRow.lt
def AD:=@Option.map_eq_some_iff
def AE:=@Go.WideShapes.add_plain
def AF:=@Int.eq_ofNat_of_zero_le
def AG:=@List.length_nil
def AH:=@Go.World.ownsRow_nil
def AJ:=@Nat.zero_add
def AK:=@Go.World.cell?_of_block
def AL:=@List.take_of_length_le
def AM:=@Go.bodyPost_ret
def AN:=@List.getElem?_take_of_lt
def AO:=@List.mem_cons_of_mem
def AP:=@List.mem_of_getElem?
def AQ:=@List.drop_eq_getElem_cons
def AR:=@Bool.and_eq_true
def AU:=@List.append_assoc
def AV:=@Prod.mk.injEq
def AW:=@Option.getD_some
def AX:=@List.length_set
def AY:=@List.length_take
def AZ:=@List.getElem?_map
def A0:=@List.getElem?_eq_none
def A6:=@Bool.false_eq_true
def A7:=@List.nil_append
def A8:=@decide_eq_true
def A9:=@List.length_map
def Ba:=@Option.some.inj
def Bb:=@List.mem_append_right
def Bc:=@Nat.lt_or_ge
def Be:=@List.mem_cons
def Bg:=@List.take_succ_eq_append_getElem
def Bh:=@Nat.le_succ
def Bi:=@decide_eq_false
def Bj:=@Nat.sub_self
def Bk:=@List.size_toArray
def Bl:=@List.length_eq_zero_iff
def Bm:=@Array.getElem?_toList
def Bn:=@if_false
def Bo:=@decide_eq_true_eq
def Bp:=@List.cons_append
def Bq:=@List.all_eq_true
def Br:=@List.mem_append
def Bt:=@List.mem_append_left
def Bu:=@List.take_add_one
def Bv:=@List.set_cons_zero
def Bw:=@Go.Exit.noGoto_ret
def Bz:=@List.map_set
def BA:=@Array.getElem?_eq_some_iff
def BB:=@Array.replicate_succ
def BC:=@Array.replicate_zero
def BD:=@if_true
def BE:=@List.flatMap_cons
def BF:=@List.append_toArray
def BG:=@List.perm_iff_count
def BH:=@List.nodup_cons
def BI:=@List.ext_getElem?
def BJ:=@Option.map_some
def BK:=@List.setIfInBounds_toArray
def BL:=@List.mem_map
def BM:=@List.getElem?_replicate
def BN:=@Go.Addr.mk.injEq
def BO:=@Go.Calls.quiet_of_same
def BP:=@List.map_append
def BQ:=@List.getElem_mem
def BR:=@List.push_toArray
def BT:=@List.count_append
def BU:=@Bool.false_ne_true
def BV:=@List.take_append_drop
def BW:=@List.append_nil
def BX:=@Nat.not_lt_zero
def BZ:=@List.mem_range
def B6:=@Go.results_cell_tmp
def B7:=@Nat.le_succ_of_le
def B8:=@of_decide_eq_true
def B9:=@Go.wpAny_ready
def Ca:=@List.mem_of_mem_take
def Cb:=@Ne.symm
def Cc:=@List.range_succ
def Cd:=@List.take_length
def Ce:=@Go.below_drewN
def Cf:=@List.length_pos_iff
def Cg:=@List.nodup_append
def Ch:=@List.length_filter_le
def Ci:=@List.length_replicate
def Cj:=@List.mem_singleton
def Ck:=@List.set_cons_succ
def Cl:=@List.drop_length
def Cm:=@Go.IntWalk.wrap64_in
def Cn:=@Go.IntWalk.i64_in
def Co:=@Go.run_underlying
def Cp:=@List.map_congr_left
def Cq:=@Go.World.cell?_setCell_other
def Cs:=@List.mem_of_mem_erase
def Ct:=@List.perm_append_comm
def Zaa:=@List.set_append_right
def Zab:=@Go.RowKit.Below.heap_alloc
def Zac:=@Go.run_append_arg_grows
def Zad:=@List.foldl_cons
def Zae:=@List.countP_eq_zero
def Zaf:=@Array.getElem?_eq_none
def Zag:=@Go.callsIn_of_wp
def Zah:=@Int.le_refl
def Zai:=@List.mem_flatMap
def Zaj:=@Go.RowKit.Below.heap_setCell
def Zak:=@List.getElem?_drop
def Zal:=@List.countP_append
def Zam:=@List.count_nil
def Zan:=@List.getElem?_take
def Zao:=@List.erase_of_not_mem
def Zap:=@List.countP_le_length
def Zaq:=@List.mem_or_eq_of_mem_set
def Zar:=@Nat.mul_le_mul_right
def Zas:=@List.mem_iff_getElem
def Zat:=@AllReady.cons
def Zau:=@List.eq_of_mem_replicate
def Zav:=@List.take_succ_cons
def Zaw:=@Go.IntWalk.u32_in
def Zax:=@Int.emod_lt_of_pos
def Zay:=@Int.lt_tmod_of_pos
def Zaz:=@List.filter_append
def Za0:=@Int.natCast_nonneg
def Za1:=@Option.toList_some
def Za2:=@List.count_cons
def Za3:=@Go.Lib.run_eql_slice_nil
def Za4:=@List.Perm.append_left
def Za5:=@List.foldl_append
def Za6:=@Bool.not_eq_true'
def Za7:=@List.take_take
def Za8:=@Go.Calls.quiet_of
def Za9:=@List.getElem?_of_mem
def Zba:=@List.length_drop
def Zbb:=@List.not_mem_nil
def Zbc:=@Array.getElem?_eq_getElem
def Zbd:=@Classical.byContradiction
def Zbe:=@Array.length_toList
def Zbf:=@List.flatMap_append
def Zbg:=@Array.setIfInBounds_comm
def Zbh:=@Bool.true_and
def Zbi:=@Int.emod_nonneg
def Zbj:=@List.cons.injEq
def Zbk:=@Go.World.ownsRow.kept
def Zbl:=@Nat.mul_one
def Zbm:=@List.drop_eq_nil_of_le
def Zbn:=@List.take_zero
def Zbo:=@List.drop_zero
def Zbp:=@List.Perm.append_right
def Zbq:=@List.drop_of_length_le
def Zbr:=@Nat.mod_lt
def Zbs:=@beq_iff_eq
def Zbt:=@List.getElem_map
def Zbu:=@List.ext_getElem
def Zbv:=@Nat.max_eq_right
def Zbw:=@Option.bind_some
def Zbx:=@Nat.lt_irrefl
def Zby:=@List.replicate_succ'
def Zbz:=@List.getElem?_mapIdx
def Zb0:=@List.mem_of_mem_drop
def Zb1:=@Int.ediv_nonneg
def Zb2:=@Go.Lib.strCells_eq
def Zb3:=@List.length_reverse
def Zb4:=@List.drop_succ_cons
def Zb5:=@List.countP_pos_iff
def Zb6:=@Go.AllReady.nil
def Zb7:=@Nat.add_zero
def Zb8:=@Go.wpAny_take
def Zb9:=@Int.tmod_lt_of_pos
def Zca:=@List.getElem_range
def Zcb:=@Nat.add_mul
def Zcc:=@List.take_set
def Zcd:=@List.map_cons
end Go
namespace Go.CN
section
open Go.RowKit
variable {w w' a:rO}{b c:Nat}{cs:Array tR}{t:uf}{row:Option Nat}{x y u:tR}
def Cy(w:rO)(b:Nat)(cs:Array tR)(t:uf):Prop:=w.heap[b]?=Z (uj cs t (0,0))
theorem Cy.cell(h:Cy w b cs t)(i:Nat):w.cell? ⟨b,i,N⟩=cs[i]?:=by unfold Cy at h;simp[World.cell?,h]
theorem Cy.free(h:Cy w b cs t)(i:Nat):w.frozen? ⟨b,i,N⟩=false:=by unfold Cy at h;simp[World.frozen?,h]
theorem Cy.lt(h:Cy w b cs t):b<w.heap.size:=lt_of_block h
theorem Cy.kept(h:Cy w b cs t)(c:w.grownBy w' row)(a:Z b≠row):Cy w' b cs t:=(c.block b h.lt a).trans h
theorem Cy.below{B:Nat}(h:Cy w b cs t)(c:tS B w w')(a:b<B):Cy w' b cs t:=(c.block b a).trans h
theorem Cy.alloc(h:Cy w b cs t)(o:Obj):Cy (w.alloc o) b cs t:=h.kept (World.grownBy_alloc w o N) (by simp)
theorem Cy.drew(h:Cy w b cs t):Cy w.drew b cs t:=h
theorem Cy.new(w:rO)(cs:Array tR)(t:uf):Cy (w.alloc (uj cs t)) w.heap.size cs t:=by show(w.heap.push _)[w.heap.size]?=_;simp
theorem Cy.ID(cs:Array tR)(t:uf)(h:w.heap.size=b):Cy (w.alloc (uj cs t)) b cs t:=h▸Cy.new w cs t
theorem Cy.set(h:Cy w b cs t)(i:Nat)(u:tR):Cy (w.setCell ⟨b,i,N⟩ u) b (cs.setIfInBounds i u) t:=by
 have a:=h.lt;unfold Cy at h⊢;have c:w.heap[b]=uj cs t (0,0):=by simpa[Zbc a]using h
 show(w.heap.modify b _)[b]?=_;rw[Zbc (by simpa using a),Array.getElem_modify_self,c];rfl
theorem Cy.setOther{i:Nat}(h:Cy w b cs t)(a:b≠c)(u:tR):Cy (w.setCell ⟨c,i,N⟩ u) b cs t:=(Zaj w ⟨c,i,N⟩ u b a).trans h
theorem Sa(w:rO)(row:Option Nat):w.grownBy w row:=⟨rfl,rfl,rfl,Al _,λ_ _ _=>rfl⟩
theorem DO(w:rO)(b i:Nat)(u:tR):w.grownBy (w.setCell ⟨b,i,N⟩ u) (Z b):=⟨rfl,rfl,rfl,by simp[tV],λk _ a=>Zaj w ⟨b,i,N⟩ u k (λe=>a (by simp[e]))⟩
theorem Sb(w:rO)(row:Option Nat):w.grownBy w.drew row:=⟨rfl,rfl,rfl,Al _,λ_ _ _=>rfl⟩
theorem EV(h:tS w.heap.size w w')(row:Option Nat):w.grownBy w' row:=⟨h.os,h.tape,h.output,h.size,λk a _=>h.block k a⟩
theorem Cy.Sd(h:Cy w b #[x,y] t):Cy (w.setCell ⟨b,0,N⟩ u) b #[u,y] t:=h.set 0 u
theorem Cy.Mt(h:Cy w b #[x,y] t):Cy (w.setCell ⟨b,1,N⟩ u) b #[x,u] t:=h.set 1 u
theorem Cu(h:tS a.heap.size a w)(o:Obj):tS a.heap.size a (w.alloc o):=h.alloc h.size o
theorem C5(h:tS a.heap.size a w)(b:a.heap.size<=c)(i:Nat)(u:tR):tS a.heap.size a (w.setCell ⟨c,i,N⟩ u):=h.setCell b u
theorem CK(h:tS a.heap.size a w)(b:w.grownBy w' row)(c: ∀k,row=Z k->a.heap.size<=k):tS a.heap.size a w':=h.grown b h.size c
theorem Cv(h:tS a.heap.size a w)(b:tS w.heap.size w w'):tS a.heap.size a w':=h.trans (b.mono h.size)
theorem FC{W w1:rO}(a:tS W.heap.size W w1):(∀b o,b<W.heap.size->w1.cell? ⟨b,o,N⟩=W.cell? ⟨b,o,N⟩)/\(∀b o,b<W.heap.size->w1.frozen? ⟨b,o,N⟩=W.frozen? ⟨b,o,N⟩):=⟨λb o h=>a.cell (p:=⟨b,o,N⟩) h,λb o h=>a.frozen (p:=⟨b,o,N⟩) h⟩
theorem Fv{k:IntKind}{a b:Int}(h:a=b):Ending.returned (.int k a)= .returned (.int k b):=by rw[h]
theorem Yj{a b:Bool}(h:a=b):Ending.returned (.bool a)= .returned (.bool b):=by rw[h]
end
section
open Go.RowKit
theorem Gj{w w':rO}(h:tS w.drew.heap.size w.drew w'):tS w.heap.size w w':=⟨h.os,h.tape,h.output,h.size,h.block⟩
end
section
open Go.ChangeShapes Go.WideShapes Go.Deep Go.RowKit
theorem Ep{w:rO}{a:Addr}{v:tR}(h:w.cell? a=Z v):a.block<w.heap.size:=by
 unfold World.cell? at h;rcases Bc a.block w.heap.size with b|b
 ·exact b
 ·simp[Zaf b]at h
section
variable {H:Type}{enc:uf×tR->H}{P:Program}{w:rO}{base:Nat}{spare:Nat->Bool}{held:Bool}
end
end
section
open Go.RowKit
variable {w w':rO}{base:Nat}{v:tR}{l:List Int}
def Sl(w:rO)(v:tR)(l:List Int):Prop:=
 ∃a cap,v= .slice a l.length cap/\l.length<=maxLen/\
  (l=[]\/ ∃b off,a=Z ⟨b,off,N⟩/\b<w.heap.size/\ ∀i,i<l.length->w.cell? ⟨b,off+i,N⟩=Z (I U (l[i]?.getD 0)))
def CH(w:rO)(base:Nat)(v:tR)(l:List Int):Prop:=w.ownsRow base 3 1 v l.length (l.map (I U))
theorem Sl.nil(w:rO):Sl w (Y N 0 0) []:=⟨N,0,rfl,Ap _,.inl rfl⟩
theorem Sl.Er(h:CH w base v l):Sl w v l:=by
 obtain⟨_,⟨rfl,d⟩|⟨g,cap,cur,rfl,_,b,e,hm,f,ht⟩⟩:=h
 ·have:l=[]:=Bl.1 d
  subst this;exact Sl.nil w
 ·refine⟨_,cap,rfl,AA e hm,.inr ⟨g,0,rfl,(BA.1 b).1,λi a=>?_⟩⟩
  rw[Zbl]at ht f;have c:(cur.toList.take l.length)[i]?=(l.map (I U))[i]?:=by rw[ht]
  rw[AN a,AZ,Ae a]at c;simp[World.cell?,b];simpa[a]using c
theorem CH.nil(w:rO)(base:Nat):CH w base (Y N 0 0) []:=AH w base 3 1
theorem CH.lt(h:CH w base v l): ∀k,v.ownBlock=Z k->base<=k/\k<w.heap.size:=AB h
theorem CH.kept{row:Option Nat}(h:CH w base v l)(b:w.grownBy w' row)(a:v.ownBlock=N\/v.ownBlock≠row):CH w' base v l:=Zbk h b a
theorem CH.below(h:CH w base v l)(a:tS w.heap.size w w'):CH w' base v l:=h.kept (EV a N) (by cases b:v.ownBlock<;>simp)
theorem CH.mono{Mu:Nat}(h:CH w base v l)(b:Mu<=base):CH w Mu v l:=by
 obtain⟨a,c|⟨g,cap,cur,d,e,f,r⟩⟩:=h
 ·exact⟨a,.inl c⟩
 ·exact⟨a,.inr ⟨g,cap,cur,d,AA b e,f,r⟩⟩
theorem CH.drewN(h:CH w base v l)(n:Nat):CH (w.drewN n) base v l:=h
end
section
open Go.RowKit
variable {w:rO}{g m i:Nat}{t:uf}{F:Nat->tR}
def Dz(w:rO)(g m:Nat)(t:uf)(F:Nat->tR):Prop:= ∃cs,Cy w g cs t/\cs.size=m/\ ∀i,i<m->cs[i]?=Z (F i)
theorem Dz.lt(h:Dz w g m t F):g<w.heap.size:=by obtain⟨cs,a,_⟩:=h;exact a.lt
theorem Dz.cell(h:Dz w g m t F)(a:i<m):w.cell? ⟨g,i,N⟩=Z (F i):=by obtain⟨cs,b,_,c⟩:=h;rw[b.cell];exact c i a
theorem Dz.free(h:Dz w g m t F)(i:Nat):w.frozen? ⟨g,i,N⟩=false:=by obtain⟨cs,a,_⟩:=h;exact a.free i
theorem Dz.kept{w':rO}{row:Option Nat}(h:Dz w g m t F)(b:w.grownBy w' row)(a:Z g≠row):Dz w' g m t F:=by obtain⟨cs,c,r⟩:=h;exact⟨cs,c.kept b a,r⟩
theorem Dz.alloc(h:Dz w g m t F)(o:Obj):Dz (w.alloc o) g m t F:=by obtain⟨cs,a,r⟩:=h;exact⟨cs,a.alloc o,r⟩
theorem Dz.congr{G:Nat->tR}(h:Dz w g m t F)(a: ∀i,i<m->F i=G i):Dz w g m t G:=by obtain⟨cs,c,d,r⟩:=h;exact⟨cs,c,d,λi b=>by rw[r i b,a i b]⟩
theorem Dz.set(h:Dz w g m t F)(b:i<m)(u:tR):Dz (w.setCell ⟨g,i,N⟩ u) g m t (λk=>if k=i then u else F k):=by
 obtain⟨cs,c,a,r⟩:=h;refine⟨_,c.set i u,by simpa using a,λk d=>?_⟩;rw[Array.getElem?_setIfInBounds];by_cases he:i=k
 ·subst he;simp[a,b]
 ·have: ¬k=i:=λe=>he e.symm
  simp[he,this,r k d]
theorem Dz.setOther{c:Nat}(h:Dz w g m t F)(a:g≠c)(u:tR):Dz (w.setCell ⟨c,i,N⟩ u) g m t F:=by obtain⟨cs,b,r⟩:=h;exact⟨cs,b.setOther a u,r⟩
theorem Dz.made(w:rO)(m:Nat)(t:uf)(z:tR):Dz (w.alloc (uj (madeCells #[z] m) t)) w.heap.size m t (λ_=>z):=by
 refine⟨_,Cy.new w _ t,?_,λi a=>?_⟩
 ·exact size_madeCells _ _
 ·simp[madeCells,a,Nat.mod_one]
end
section
open Go.RowKit
section
variable {P:Program}{t:uf}(ht:P.underlying t=Z (.slice 3))(DH:(P.info? 3).map (λi=>(i.zero,i.size,i.bytes))=Z (Z (I U 0),1,8))
include ht DH
theorem jP(base:Nat)(W:rO)(x:Int){ops:Array Oper}{rest:List Oper}{o:Oper}{a:Act}{Q:Exit->Act->rO->Prop}(e:o.guard=N)(s y:Operand)(n:o.op= .call {callee:=.builtin .append,args:=#[s,y],argTypes:=#[t,t]})(v:tR)(l:List Int)(p:a.eval s=v)(hy:a.eval y=Y (Z ⟨W.heap.size,0,N⟩) 1 1)
  (c:CH W base v l) (f:base<=W.heap.size) (hlen:l.length<100000000)
  (h: ∀d w',CH w' base d (l++[x])->W.grownBy w' v.ownBlock->(∃g cap,d=Y (Z ⟨g,0,N⟩) (l.length+1) cap)->wpList P ops Q rest (a.put o.dst d) w'):
  wpList P ops Q (o::rest) a (W.alloc (uj #[I U x] 3)):=by
 obtain⟨i0,q,i,j,k⟩:=info_parts DH;have b:W.ownsRow base 3 1 v l.length (l.map (I U)):=c;refine wpList_append_own _ e s y t n base 3 i0 (I U 0) 1 8 ht q i j k rfl (by decide) v l.length _ p (b.alloc _) ⟨W.heap.size,0,N⟩ 1 1 [I U x] hy rfl (cell_one_new _ _ _) (by simp[Value.oneCell']) (by unfold maxLen;omega) (by omega) (by simp;omega) ?_;intro d w' m r _;refine h d w' (by unfold CH;simpa using m) ?_ ?_
 ·exact(World.grownBy_alloc W _ _).trans r
 ·obtain⟨g,cap,rfl⟩:=ownsRow_succ m
  exact⟨g,cap,rfl⟩
end
end
def Dk(i n:Int):Int:=if n<1 then 0 else i%n
theorem OI(i n:Int):0<=Dk i n:=by
 unfold Dk;split
 ·omega
 ·exact Zbi _ (by omega)
theorem Uf(i n:Int)(h:1<=n):Dk i n<n:=by unfold Dk;rw[Ah (by omega)];exact Zax _ (by omega)
theorem PH(i n:Int)(h:1<=n):(i.tmod n+n).tmod n=i%n:=by
 have a:0<=i.tmod n+n:=by have:=Zay i (show(0:Int)<n by omega);omega
 rw[Int.tmod_eq_emod_of_nonneg a,Int.add_emod_right,Int.tmod_eq_emod];split
 ·simp
 ·have:((n.natAbs:Nat):Int)=n:=by omega
  rw[this];simp
def Es(n start step:Int)(k:Nat):Int:=(Dk start n+k*step)%n
def F7(n step:Int):Prop:=n<1\/1024<n\/step<1\/1024<step
instance (n step:Int):Decidable (F7 n step):=by unfold F7;infer_instance
def Im(n start step:Int):List Int:=if F7 n step then []else(List.range n.toNat).map (Es n start step)
theorem PI(n start step:Int)(h:1<=n):Es n start step 0=Dk start n:=by unfold Es;have a:=OI start n;have b:=Uf start n h;simp only[Int.natCast_zero,Int.zero_mul,Int.add_zero];exact Int.emod_eq_of_lt a b
theorem PJ(n start step:Int)(k:Nat):Es n start step (k+1)=(Es n start step k+step)%n:=by
 unfold Es;rw[Int.emod_add_emod];congr 1;push_cast
 rw[Int.add_mul];omega
theorem Vp(n start step:Int)(k:Nat)(h:1<=n):0<=Es n start step k:=Zbi _ (by omega)
theorem Vq(n start step:Int)(k:Nat)(h:1<=n):Es n start step k<n:=Zax _ (by omega)
theorem KP(n start step:Int):(Im n start step).length<=1024:=by
 unfold Im;split
 ·simp
 ·rename_i h;unfold F7 at h;simp;omega
section
open Go.RowKit
variable {S T:Nat->Prop}{a b c w w':rO}{B base:Nat}{v:tR}{l:List Int}
structure Cw (S:Nat->Prop) (w w':rO):Prop where
 os:w'.os=w.os
 tape:w'.tape=w.tape
 output:w'.output=w.output
 size:w.heap.size<=w'.heap.size
 block: ∀k,k<w.heap.size-> ¬S k->w'.heap[k]?=w.heap[k]?
theorem Cw.refl(S:Nat->Prop)(w:rO):Cw S w w:=⟨rfl,rfl,rfl,Al _,λ_ _ _=>rfl⟩
theorem Cw.trans(h:Cw S a b)(k:Cw S b c):Cw S a c:=⟨k.os.trans h.os,k.tape.trans h.tape,k.output.trans h.output,AA h.size k.size,λi d e=>(k.block i (An d h.size) e).trans (h.block i d e)⟩
theorem Cw.mono(h:Cw S a b)(d: ∀k,k<a.heap.size->S k->T k):Cw T a b:=⟨h.os,h.tape,h.output,h.size,λi c ht=>h.block i c (λx=>ht (d i c x))⟩
theorem Cw.andThen(h:Cw S a b)(k:Cw T b c)(ht: ∀k,k<a.heap.size->T k->S k):Cw S a c:=⟨k.os.trans h.os,k.tape.trans h.tape,k.output.trans h.output,AA h.size k.size,λi d e=>(k.block i (An d h.size) (λx=>e (ht i d x))).trans (h.block i d e)⟩
theorem Cw.alloc(h:Cw S a w)(o:Obj):Cw S a (w.alloc o):=⟨h.os,h.tape,h.output,AA h.size (by simp),λi b c=>(Zab w o i (An b h.size)).trans (h.block i b c)⟩
theorem Cw.drew(h:Cw S a w):Cw S a w.drew:=⟨h.os,h.tape,h.output,h.size,h.block⟩
theorem Cw.drewN(h:Cw S a w)(n:Nat):Cw S a (w.drewN n):=⟨h.os,h.tape,h.output,h.size,h.block⟩
theorem Cw.set{c:Nat}(h:Cw S a w)(f:a.heap.size<=c\/S c)(i:Nat)(u:tR):Cw S a (w.setCell ⟨c,i,N⟩ u):=⟨h.os,h.tape,h.output,AA h.size (by simp[tV]),λk g b=>by rw[Zaj w ⟨c,i,N⟩ u k (λe=>f.elim (λd=>absurd (show k=c from e) (by omega)) (λd=>b (by rw[show k=c from e];exact d)))];exact h.block k g b⟩
theorem Cw.grown{row:Option Nat}(h:Cw S a w)(b:w.grownBy w' row)(f: ∀k,row=Z k->a.heap.size<=k\/S k):Cw S a w':=⟨b.os.trans h.os,b.tape.trans h.tape,b.output.trans h.output,AA h.size b.size,λk c d=>by rw[b.block k (An c h.size) (λe=>(f k e.symm).elim (λg=>absurd c (by omega)) d)];exact h.block k c d⟩
theorem Cw.below(h:Cw S a w)(b:tS w.heap.size w w'):Cw S a w':=h.grown (EV b N) (λk e=>by cases e)
theorem Cw.toBelow(h:Cw S w w')(a:B<=w.heap.size)(b: ∀k,S k->B<=k):tS B w w':=⟨h.os,h.tape,h.output,h.size,λk c=>h.block k (An c a) (λx=>by have:=b k x;omega)⟩
theorem Ea(h:tS a.heap.size a w)(k:Cw S w w')(b: ∀k,S k->a.heap.size<=k):tS a.heap.size a w':=h.trans (k.toBelow h.size b)
theorem Cy.only{b:Nat}{cs:Array tR}{t:uf}(h:Cy w b cs t)(k:Cw S w w')(a: ¬S b):Cy w' b cs t:=(k.block b h.lt a).trans h
theorem Dz.only{g m:Nat}{t:uf}{F:Nat->tR}(h:Dz w g m t F)(k:Cw S w w')(a: ¬S g):Dz w' g m t F:=by obtain⟨cs,b,r⟩:=h;exact⟨cs,b.only k a,r⟩
def Vs(w:rO)(B:Nat)(v:tR)(l:List Int):Prop:=
 ∃a cap,v= .slice a l.length cap/\((a=N->cap=0)/\l.length<=cap)/\l.length<=maxLen/\
  (l=[]\/ ∃b off,a=Z ⟨b,off,N⟩/\B<=b/\b<w.heap.size/\ ∀i,i<l.length->w.cell? ⟨b,off+i,N⟩=Z (I U (l[i]?.getD 0)))
theorem Vs.nil(w:rO)(B:Nat):Vs w B (Y N 0 0) []:=⟨N,0,rfl,⟨λ_=>rfl,Al _⟩,Ap _,.inl rfl⟩
theorem Vs.Er(h:CH w base v l):Vs w base v l:=by
 have f:=Sl.Er h;have n:=h;obtain⟨_,⟨rfl,i⟩|⟨g,cap,cur,rfl,j,o,c,_⟩⟩:=h
 ·have:l=[]:=Bl.1 i
  subst this;exact Vs.nil w base
 ·obtain⟨a,e,he,hm,k|⟨b,off,rfl,d,m⟩⟩:=f
  ·exact⟨_,_,rfl,⟨(λh=>by cases h),c⟩,hm,.inl k⟩
  ·simp only[As]at he
   obtain⟨he,_,rfl⟩:=he;cases he;exact⟨_,_,rfl,⟨(λh=>by cases h),c⟩,hm,.inr ⟨_,_,rfl,j,d,m⟩⟩
theorem Vs.drop{b off cap Gk:Nat}{n:Nat}(h:Vs w B (Y (Z ⟨b,off,N⟩) l.length cap) l)(k:Nat)(r:k<=l.length)(j:n=l.length-k)(d:n<=Gk):Vs w B (Y (Z ⟨b,off+k,N⟩) n Gk) (l.drop k):=by
 subst j;obtain⟨a,c,f,_,hm,h⟩:=h;simp only[As]at f;obtain⟨rfl,_,_⟩:=f;refine⟨Z ⟨b,off+k,N⟩,Gk,by simp,⟨(λh=>by cases h),by simpa using d⟩,by simp;omega,?_⟩;rcases h with rfl|⟨s,g,he,m,o,p⟩
 ·left;simp
 ·cases he
  refine .inr ⟨b,off+k,rfl,m,o,λi q=>?_⟩;have e:k+i<l.length:=by simp at q;omega
  rw[Nat.add_assoc,p (k+i) e,Zak]
theorem Vs.open(h:Vs w B v l):(v=Y N 0 0/\l=[])\/(∃c cap,v=Y (Z c) 0 cap/\l=[])\/ ∃b off cap,v=Y (Z ⟨b,off,N⟩) l.length cap/\l≠[]/\l.length<=cap/\B<=b/\b<w.heap.size/\ ∀i,i<l.length->w.cell? ⟨b,off+i,N⟩=Z (I U (l[i]?.getD 0)):=by
 obtain⟨a,cap,rfl,e,hm,h⟩:=h;by_cases d:l=[]
 ·subst d
  cases a with
  |none=>rw[e.1 rfl];exact .inl ⟨rfl,rfl⟩
  |some c=>exact .inr (.inl ⟨c,cap,rfl,rfl⟩)
 ·rcases h with h|⟨b,off,rfl,f,g,j⟩
  ·exact absurd h d
  ·exact .inr (.inr ⟨b,off,cap,rfl,d,e.2,f,g,j⟩)
section
variable {P:Program}{t:uf}(ht:P.underlying t=Z (.slice 3))(DH:(P.info? 3).map (λi=>(i.zero,i.size,i.bytes))=Z (Z (I U 0),1,8))
include ht DH
end
theorem CH.only(h:CH w base v l)(k:Cw S w w')(e: ∀b,base<=b-> ¬S b):CH w' base v l:=by
 obtain⟨a,f|⟨g,cap,cur,i,c,d,r⟩⟩:=h
 ·exact⟨a,.inl f⟩
 ·exact⟨a,.inr ⟨g,cap,cur,i,c,(k.block g (BA.1 d).1 (e g c)).trans d,r⟩⟩
end
section
open Go.RowKit
variable {w w':rO}{v:tR}{l:List Int}{base cap:Nat}
def DG(w:rO)(v:tR)(l:List Int):Prop:=
 ∃a cap,v= .slice a l.length cap/\((a=N->cap=0)/\l.length<=cap)/\l.length<=maxLen/\
  (l=[]\/ ∃b off,a=Z ⟨b,off,N⟩/\b<w.heap.size/\ ∀i,i<l.length->w.cell? ⟨b,off+i,N⟩=Z (I U (l[i]?.getD 0)))
def Hs(S:Nat->Prop)(v:tR):Prop:= ∀j,v.ownBlock=Z j-> ¬S j
theorem Hs.nil(S:Nat->Prop):Hs S (Y N 0 0):=by intro j h;simp[ud]at h
theorem DG.Ug(w:rO)(a:Addr)(c:Nat):DG w (Y (Z a) 0 c) []:=⟨Z a,c,rfl,⟨(λh=>by cases h),Ap _⟩,Ap _,.inl rfl⟩
theorem DG.len(h:DG w v l): ∃a cap,v= .slice a l.length cap:=by obtain⟨a,cap,b,_⟩:=h;exact⟨a,cap,b⟩
theorem DG.only{S:Nat->Prop}(h:DG w v l)(k:Cw S w w')(f:Hs S v):DG w' v l:=by
 obtain⟨a,cap,c,d,hm,h|⟨b,off,g,e,j⟩⟩:=h
 ·exact⟨a,cap,c,d,hm,.inl h⟩
 ·subst c g
  exact⟨_,cap,rfl,d,hm,.inr ⟨b,off,rfl,An e k.size,λi m=>(AK (k.block b e (f b rfl))).trans (j i m)⟩⟩
theorem DG.below(h:DG w v l)(a:tS w.heap.size w w'):DG w' v l:=h.only (S:=λ_=>False) ((Cw.refl _ w).below a) (λ_ _ x=>x)
theorem DG.drewN(h:DG w v l)(n:Nat):DG (w.drewN n) v l:=h
theorem DG.alloc(h:DG w v l)(o:Obj):DG (w.alloc o) v l:=h.below (Cu (tU _ _) o)
theorem DG.iY{B:Nat}(h:Vs w B v l):DG w v l:=by
 obtain⟨a,cap,c,d,hm,h|⟨b,off,e,_,f,g⟩⟩:=h
 ·exact⟨a,cap,c,d,hm,.inl h⟩
 ·exact⟨a,cap,c,d,hm,.inr ⟨b,off,e,f,g⟩⟩
theorem DG.Er(h:CH w base v l):DG w v l:=DG.iY (Vs.Er h)
theorem DG.iZ(h:DG w v l):Vs w 0 v l:=by
 obtain⟨a,cap,c,d,hm,h|⟨b,off,e,f,g⟩⟩:=h
 ·exact⟨a,cap,c,d,hm,.inl h⟩
 ·exact⟨a,cap,c,d,hm,.inr ⟨b,off,e,Ap _,f,g⟩⟩
theorem DG.lt(h:DG w v l)(c:l≠[]): ∀j,v.ownBlock=Z j->j<w.heap.size:=by
 obtain⟨a,cap,rfl,e,hm,h|⟨b,off,rfl,f,g⟩⟩:=h
 ·exact absurd h c
 ·intro j d;simp[ud]at d;omega
theorem DG.drop{b off Gk:Nat}{n:Nat}(h:DG w (Y (Z ⟨b,off,N⟩) l.length cap) l)(k:Nat)(c:k<=l.length)(d:n=l.length-k)(a:n<=Gk):DG w (Y (Z ⟨b,off+k,N⟩) n Gk) (l.drop k):=DG.iY (h.iZ.drop k c d a)
theorem DG.open(h:DG w v l):(v=Y N 0 0/\l=[])\/(∃a cap,v=Y (Z a) 0 cap/\l=[])\/ ∃b off cap,v=Y (Z ⟨b,off,N⟩) l.length cap/\l≠[]/\l.length<=cap/\b<w.heap.size/\ ∀i,i<l.length->w.cell? ⟨b,off+i,N⟩=Z (I U (l[i]?.getD 0)):=by
 rcases h.iZ.open with h|h|⟨b,off,cap,c,d,e,_,f,g⟩
 ·exact .inl h
 ·exact .inr (.inl h)
 ·exact .inr (.inr ⟨b,off,cap,c,d,e,f,g⟩)
theorem DG.new(w:rO)(l:List Int)(h:l.length<=maxLen):DG (w.alloc (uj (l.map (I U)).toArray 3)) (Y (Z ⟨w.heap.size,0,N⟩) l.length l.length) l:=by refine⟨_,_,rfl,⟨(λh=>by cases h),Al _⟩,h,.inr ⟨_,0,rfl,by simp,λi a=>?_⟩⟩;rw[(Cy.new w _ 3).cell];simp[a]
theorem CH.shrink{g m:Nat}(h:CH w base (Y (Z ⟨g,0,N⟩) m cap) l)(k:Nat)(i:k<=l.length):CH w base (Y (Z ⟨g,0,N⟩) k cap) (l.take k):=by
 obtain⟨j,⟨b,_⟩|⟨n,c,cur,b,d,e,o,hm,f,ht⟩⟩:=h
 ·simp at b
 ·simp only[As]at b
  obtain⟨he,_,rfl⟩:=b;cases he;rw[Zbl]at ht;have a:(l.take k).length=k:=by simp;omega
  refine⟨by simp,.inr ⟨g,cap,cur,by rw[a],d,e,by rw[a];omega,hm,f,?_⟩⟩;rw[a,Zbl,List.map_take,<-ht,Za7];congr 1;omega
theorem CH.off{S:Nat->Prop}(h:CH w base v l)(k:Cw S w w')(d:Hs S v):CH w' base v l:=by
 obtain⟨a,e|⟨g,cap,cur,b,f,c,r⟩⟩:=h
 ·exact⟨a,.inl e⟩
 ·exact⟨a,.inr ⟨g,cap,cur,b,f,(k.block g (BA.1 c).1 (d g (by rw[b];rfl))).trans c,r⟩⟩
theorem CH.open(h:CH w base v l):(v=Y N 0 0/\l=[])\/ ∃g cap,v=Y (Z ⟨g,0,N⟩) l.length cap/\base<=g/\g<w.heap.size/\l.length<=cap/\ ∀i,i<l.length->w.cell? ⟨g,i,N⟩=Z (I U (l[i]?.getD 0)):=by
 have f:=Sl.Er h;obtain⟨_,⟨rfl,j⟩|⟨g,cap,cur,rfl,k,m,c,n,o,p⟩⟩:=h
 ·exact .inl ⟨rfl,Bl.1 j⟩
 ·refine .inr ⟨g,cap,rfl,k,(BA.1 m).1,c,λi d=>?_⟩
  obtain⟨a,e,he,_,q|⟨b,off,rfl,_,r⟩⟩:=f
  ·simp[q]at d
  ·simp only[As]at he
   obtain⟨he,_⟩:=he;cases he;have:=r i d;rwa [AJ]at this
end
section
open Go.RowKit
section
variable {P:Program}{t:uf}(ht:P.underlying t=Z (.slice 3))(DH:(P.info? 3).map (λi=>(i.zero,i.size,i.bytes))=Z (Z (I U 0),1,8))
include ht DH
variable {ops:Array Oper}{Q:Exit->Act->rO->Prop}{l:List Int}
def JM(W:rO)(base:Nat)(v:tR)(l m:List Int)(v':tR)(w':rO):Prop:=CH w' base v' (l++m)/\W.grownBy w' v.ownBlock/\ ∀j,v'.ownBlock=Z j->v.ownBlock=Z j\/W.heap.size<=j
theorem PK(base:Nat)(W:rO)(ty:uf)(v:tR)(l:List Int)(u:tR)(m:List Int)(e:CH W base v l)(hu:DG W u m)(f:base<=W.heap.size)(hlen:l.length+m.length<100000000): ∃r w',(Builtin.append_ #[t,t] ty #[v,u]).run P W= .ok r w'/\JM W base v l m r w':=by
 obtain⟨i0,K,D,A,E⟩:=info_parts DH;have i:W.ownsRow base 3 1 v l.length (l.map (I U)):=e;by_cases hm:u=Y N 0 0
 ·subst hm
  have:m=[]:=by obtain⟨a,cap,h,_⟩:=hu;simp only[As]at h;exact Bl.1 h.2.1.symm
  subst this;refine⟨v,W,run_append_owned_none (P:=P) (w:=W) base t ty 3 i0 1 ht K v l.length _ i,by simpa using e,Sa _ _,λj h=>.inl h⟩
 ·obtain⟨s,c,rfl,d⟩: ∃s c,u=Y (Z s) m.length c/\ ∀(j:Nat)(x:tR),(m.map (I U))[j]?=Z x->W.cell? (s.add j)=Z x:=by
   rcases hu.open with⟨h,_⟩|⟨s,cap,rfl,rfl⟩|⟨b,off,cap,rfl,_,_,_,M⟩
   ·exact absurd h hm
   ·exact⟨s,cap,rfl,by simp⟩
   ·refine⟨_,cap,rfl,λj x n=>?_⟩
    rw[AZ]at n;obtain⟨z,F,rfl⟩:=AD.1 n;have B:j<m.length:=(Af.1 F).1;rw[AE,M j B,F];rfl
  have y: ∀x∈m.map (I U),x.oneCell'=true:=by simp[Value.oneCell']
  rcases e.open with⟨rfl,rfl⟩|⟨g,cap,rfl,O,R,L,p⟩
  ·obtain⟨r,w',G,H,q,_⟩:=run_append_own (P:=P) W W.heap.size t ty 3 i0 (I U 0) 1 8 ht K D A E rfl (by decide) (Y N 0 0) 0 [] (AH W _ 3 1) s m.length c _ (by simp) d y (by unfold maxLen;omega) (by omega) (Al _)
   have o:CH w' W.heap.size r ([]++m):=by unfold CH;simpa using H
   exact⟨r,w',G,o.mono f,q,λj n=>.inr (o.lt j n).1⟩
  ·by_cases C:l.length+m.length<=cap
   ·obtain⟨w',G,H,q⟩:=run_append_fits (P:=P) W base t ty 3 i0 1 ht K A g l.length cap _ i s m.length c _ (by simp) d y C
    exact⟨_,w',G,by unfold CH;simpa using H,q,λj n=>.inl n⟩
   ·obtain⟨r,w',G,H,q⟩:=Zac (P:=P) W t ty 3 i0 (I U 0) 1 8 ht K D A E rfl (by decide) ⟨g,0,N⟩ l.length cap (l.map (I U)) (by simp) (λj x n=>by rw[AZ]at n;obtain⟨z,F,rfl⟩:=AD.1 n;have B:j<l.length:=(Af.1 F).1;rw[AE,AJ,p j B,F];rfl) s m.length c _ (by simp) d (by omega) (by unfold maxLen;omega) (by omega)
    have o:CH w' W.heap.size r (l++m):=by unfold CH;simpa using H
    exact⟨r,w',G,o.mono f,⟨q.os,q.tape,q.output,q.size,λk Q _=>q.block k Q (by simp)⟩,λj n=>.inr (o.lt j n).1⟩
theorem Ju(base:Nat)(W:rO){rest:List Oper}{o:Oper}{a:Act}(e:o.guard=N)(s y:Operand)(f:o.op= .call {callee:=.builtin .append,args:=#[s,y],argTypes:=#[t,t]})(v:tR)(l:List Int)(u:tR)(m:List Int)(g:a.eval s=v)(hy:a.eval y=u)
  (c:CH W base v l) (hu:DG W u m) (b:base<=W.heap.size) (hlen:l.length+m.length<100000000)
  (h: ∀d w',JM W base v l m d w'->wpList P ops Q rest (a.put o.dst d) w'):
  wpList P ops Q (o::rest) a W:=by
 refine wpList_plain e λK i=>?_;obtain⟨d,w',j,k⟩:=PK ht DH base W o.type v l u m c hu b hlen;unfold Oper.wp;simp[execOp,f,resolve,invoke,builtin,g,hy,j,Result.andThen];exact i _ _ (h d w' k)
theorem Yk(base:Nat)(W:rO){o:Oper}{a:Act}{K:Act->rO->Prop}{E:Prop}(e:o.guard=N)(s y:Operand)(f:o.op= .call {callee:=.builtin .append,args:=#[s,y],argTypes:=#[t,t]})(v:tR)(l:List Int)(u:tR)(m:List Int)(g:a.eval s=v)(hy:a.eval y=u)
  (c:CH W base v l) (hu:DG W u m) (b:base<=W.heap.size) (hlen:l.length+m.length<100000000)
  (h: ∀d w',JM W base v l m d w'->K (a.put o.dst d) w'):
  if Region.wanted o (yielded ops a.tmps)=tZ then Oper.wp P o a W K Q else E:=by
 have hw:Region.wanted o (yielded ops a.tmps)=true:=by simp[Region.wanted,e]
 rw[Ai hw];obtain⟨d,w',i,j⟩:=PK ht DH base W o.type v l u m c hu b hlen;unfold Oper.wp;simp[execOp,f,resolve,invoke,builtin,g,hy,i,Result.andThen];exact h d w' j
end
theorem DG.EW(w:rO)(x:Int):DG (w.alloc (uj #[I U x] 3)) (Y (Z ⟨w.heap.size,0,N⟩) 1 1) [x]:=DG.new w [x] (by simp[maxLen])
theorem CH.alloc{w:rO}{base:Nat}{v:tR}{l:List Int}(h:CH w base v l)(o:Obj):CH (w.alloc o) base v l:=h.below (Cu (tU _ _) o)
theorem CH.new{w:rO}{l:List Int}(h:l.length<=maxLen):CH (w.alloc (uj (l.map (I U)).toArray 3)) w.heap.size (Y (Z ⟨w.heap.size,0,N⟩) l.length l.length) l:=⟨by simp,.inr ⟨w.heap.size,l.length,_,rfl,Al _,Cy.new w _ 3,Al _,h,by simp,by rw[Zbl];exact AL (by simp)⟩⟩
theorem JM.some{W w':rO}{base:Nat}{v v':tR}{l:List Int}{x:Int}(h:JM W base v l [x] v' w'): ∃g cap,v'=Y (Z ⟨g,0,N⟩) (l.length+1) cap:=by
 rcases h.1.open with⟨_,a⟩|⟨g,cap,a,_⟩
 ·simp at a
 ·exact⟨g,cap,by rw[a];simp⟩
end
section
open Go.RowKit
variable {w w':rO}{base Mu size n:Nat}{e:uf}{v:tR}{xs:List tR}{ops:Array Oper}{Q:Exit->Act->rO->Prop}
def Du(W:rO)(base:Nat)(e:uf)(size:Nat)(v:tR)(n:Nat)(xs ys:List tR)(v':tR)(w':rO):Prop:=w'.ownsRow base e size v' (n+1) (xs++ys)/\W.grownBy w' v.ownBlock/\ ∀j,v'.ownBlock=Z j->v.ownBlock=Z j\/W.heap.size<=j
theorem Fk(h:w.ownsRow base e size v n xs)(b:Mu<=base):w.ownsRow Mu e size v n xs:=by
 obtain⟨a,c|⟨g,cap,cur,d,f,i,r⟩⟩:=h
 ·exact⟨a,.inl c⟩
 ·exact⟨a,.inr ⟨g,cap,cur,d,AA b f,i,r⟩⟩
theorem De{S:Nat->Prop}(h:w.ownsRow base e size v n xs)(k:Cw S w w')(d:Hs S v):w'.ownsRow base e size v n xs:=by
 obtain⟨a,f|⟨g,cap,cur,b,i,c,r⟩⟩:=h
 ·exact⟨a,.inl f⟩
 ·exact⟨a,.inr ⟨g,cap,cur,b,i,(k.block g (BA.1 c).1 (d g (by rw[b];rfl))).trans c,r⟩⟩
theorem CM(h:w.ownsRow base e size v n xs)(a:tS w.heap.size w w'):w'.ownsRow base e size v n xs:=Zbk h (EV a N) (by cases b:v.ownBlock<;>simp)
theorem C6(h:w.ownsRow base e size v n xs):(v=Y N 0 0/\n=0)\/ ∃g cap,v=Y (Z ⟨g,0,N⟩) n cap/\base<=g/\g<w.heap.size/\n<=cap/\ ∀i,i<n*size->w.cell? ⟨g,i,N⟩=Z (xs[i]?.getD undef):=by
 obtain⟨l,d|⟨g,cap,cur,rfl,f,a,b,hm,j,ht⟩⟩:=h
 ·exact .inl d
 ·refine .inr ⟨g,cap,rfl,f,(BA.1 a).1,b,λi c=>?_⟩
  have k:Cy w g cur e:=a;rw[k.cell,<-ht,AN c];have:i<cur.size:=by rw[j];exact An c (Zar _ b)
  simp[this]
def GM(w:rO)(base:Nat)(e:uf)(size:Nat)(v:tR)(n:Nat)(xs:List tR):Prop:=w.ownsRow base e size v n xs\/ ∃g,v=Y (Z ⟨g,0,N⟩) n n/\base<=g/\g<w.heap.size/\xs.length=n*size/\ ∀i,i<n*size->w.cell? ⟨g,i,N⟩=Z (xs[i]?.getD undef)
theorem GM.mono(h:GM w base e size v n xs)(a:Mu<=base):GM w Mu e size v n xs:=by
 rcases h with h|⟨g,b,c,d⟩
 ·exact .inl (Fk h a)
 ·exact .inr ⟨g,b,AA a c,d⟩
theorem GM.off{S:Nat->Prop}(h:GM w base e size v n xs)(k:Cw S w w')(a:Hs S v):GM w' base e size v n xs:=by
 rcases h with h|⟨g,b,d,c,f,j⟩
 ·exact .inl (De h k a)
 ·exact .inr ⟨g,b,d,An c k.size,f,λi l=>(AK (k.block g c (a g (by rw[b];rfl)))).trans (j i l)⟩
theorem GM.below(h:GM w base e size v n xs)(a:tS w.heap.size w w'):GM w' base e size v n xs:=h.off (S:=λ_=>False) ((Cw.refl _ w).below a) (λ_ _ x=>x)
theorem GM.len(h:GM w base e size v n xs):xs.length=n*size:=by
 rcases h with h|⟨g,_,_,_,h,_⟩
 ·exact h.1
 ·exact h
theorem GM.open(h:GM w base e size v n xs):(v=Y N 0 0/\n=0)\/ ∃g cap,v=Y (Z ⟨g,0,N⟩) n cap/\base<=g/\g<w.heap.size/\n<=cap/\ ∀i,i<n*size->w.cell? ⟨g,i,N⟩=Z (xs[i]?.getD undef):=by
 rcases h with h|⟨g,a,b,c,f,d⟩
 ·exact C6 h
 ·exact .inr ⟨g,n,a,b,c,Al _,d⟩
theorem GM.lt(h:GM w base e size v n xs): ∀k,v.ownBlock=Z k->base<=k/\k<w.heap.size:=by
 intro k a;rcases h.open with⟨rfl,_⟩|⟨g,cap,rfl,b,c,_⟩
 ·cases a
 ·cases a;exact⟨b,c⟩
theorem GM.cut{g cap:Nat}(h:GM w base e size (Y (Z ⟨g,0,N⟩) n cap) n xs)(m:Nat)(hm:m<=n):GM w base e size (Y (Z ⟨g,0,N⟩) m m) m (xs.take (m*size)):=by
 have l:=h.len;have c:m*size<=n*size:=Zar _ hm;rcases h.open with⟨a,_⟩|⟨o,b,a,d,f,p,j⟩
 ·cases a
 ·cases a
  refine .inr ⟨g,rfl,d,f,by rw[AY];omega,λi k=>?_⟩;rw[j i (by omega),AN k]
section
variable {P:Program}{t:uf}{bytes:Nat}{z:tR}(ht:P.underlying t=Z (.slice e))(DH:(P.info? e).map (λi=>(i.zero,i.size,i.bytes))=Z (Z z,size,bytes))(Ye:z.cells.size=size)(Yf:0<size)(dO:bytes<=1000)
include ht DH Ye Yf dO
theorem PL(base:Nat)(W:rO)(ty:uf)(v:tR)(n:Nat)(xs:List tR)(C:Addr)(c:Nat)(ys:List tR)(a:GM W base e size v n xs)(o:ys.length=size)(b: ∀(j:Nat)(x:tR),ys[j]?=Z x->W.cell? (C.add j)=Z x) (q: ∀x∈ys,x.oneCell'=tZ) (f:base<=W.heap.size) (hlen:n<100000000): ∃r w',(Builtin.append_ #[t,t] ty #[v,Y (Z C) 1 c]).run P W= .ok r w'/\Du W base e size v n xs ys r w':=by
 obtain⟨i0,D,u,p,w⟩: ∃i,P.info? e=Z i/\i.zero=Z z/\i.size=size/\i.bytes=bytes:=by obtain⟨i,D,G⟩:=AD.1 DH;simp only[AV]at G;exact⟨i,D,G.1,G.2.1,G.2.2⟩
 have s:(n+1)*bytes<=140737488355328:=by have:=Nat.mul_le_mul (show n+1<=100000000 by omega) dO;omega
 have E:n+1<=maxLen:=by unfold maxLen;omega
 rcases a with a|⟨g,rfl,H,M,F,d⟩;rotate_left
 ·obtain⟨r,w',y,m,h⟩:=Zac (P:=P) W t ty e i0 z size bytes ht D u p w Ye Yf ⟨g,0,N⟩ n n xs F (λj x l=>by
    have A:j<n*size:=by have:=(Af.1 l).1;rw[F]at this;exact this
    rw[AE,AJ,d j A,l];rfl) C 1 c ys (by simpa using o) b (by omega) E s
  exact⟨r,w',y,Fk m f,⟨h.os,h.tape,h.output,h.size,λk K _=>h.block k K (by simp)⟩,λj l=>.inr (AB m j l).1⟩
 rcases C6 a with⟨rfl,rfl⟩|⟨g,cap,rfl,H,M,L,d⟩
 ·have O:xs=[]:=by have:=a.1;simpa using this
  subst O;obtain⟨r,w',y,m,h,_⟩:=run_append_own (P:=P) W W.heap.size t ty e i0 z size bytes ht D u p w Ye Yf (Y N 0 0) 0 [] (AH W _ e size) C 1 c ys (by simpa using o) b q (by omega) (by omega) (Al _);exact⟨r,w',y,Fk m f,h,λj l=>.inr (AB m j l).1⟩
 ·by_cases B:n+1<=cap
  ·obtain⟨w',y,m,h⟩:=run_append_fits (P:=P) W base t ty e i0 size ht D p g n cap _ a C 1 c ys (by simpa using o) b q B
   exact⟨_,w',y,m,h,λj l=>.inl l⟩
  ·obtain⟨r,w',y,m,h⟩:=Zac (P:=P) W t ty e i0 z size bytes ht D u p w Ye Yf ⟨g,0,N⟩ n cap xs a.1 (λj x l=>by
     have A:j<n*size:=by have:=(Af.1 l).1;rw[a.1]at this;exact this
     rw[AE,AJ,d j A,l];rfl) C 1 c ys (by simpa using o) b (by omega) E s
   exact⟨r,w',y,Fk m f,⟨h.os,h.tape,h.output,h.size,λk K _=>h.block k K (by simp)⟩,λj l=>.inr (AB m j l).1⟩
theorem Iu(base:Nat)(W:rO){rest:List Oper}{o:Oper}{a:Act}(k:o.guard=N)(s y:Operand)(p:o.op= .call {callee:=.builtin .append,args:=#[s,y],argTypes:=#[t,t]})(v:tR)(n:Nat)(xs:List tR)(l:Addr)(c:Nat)(ys:List tR)(q:a.eval s=v)(hy:a.eval y=Y (Z l) 1 c)
  (f:GM W base e size v n xs) (m:ys.length=size) (b: ∀(j:Nat)(x:tR),ys[j]?=Z x->W.cell? (l.add j)=Z x) (g: ∀x∈ys,x.oneCell'=tZ) (d:base<=W.heap.size) (hlen:n<100000000)
  (h: ∀i w',Du W base e size v n xs ys i w'->wpList P ops Q rest (a.put o.dst i) w'):
  wpList P ops Q (o::rest) a W:=by
 refine wpList_plain k λK r=>?_;obtain⟨i,w',u,w⟩:=PL ht DH Ye Yf dO base W o.type v n xs l c ys f m b g d hlen;unfold Oper.wp;simp[execOp,p,resolve,invoke,builtin,q,hy,u,Result.andThen];exact r _ _ (h i w' w)
theorem JA(base:Nat)(W:rO){o:Oper}{a:Act}{K:Act->rO->Prop}{E:Prop}(k:o.guard=N)(s y:Operand)(p:o.op= .call {callee:=.builtin .append,args:=#[s,y],argTypes:=#[t,t]})(v:tR)(n:Nat)(xs:List tR)(l:Addr)(c:Nat)(ys:List tR)(q:a.eval s=v)(hy:a.eval y=Y (Z l) 1 c)
  (f:GM W base e size v n xs) (m:ys.length=size) (b: ∀(j:Nat)(x:tR),ys[j]?=Z x->W.cell? (l.add j)=Z x) (g: ∀x∈ys,x.oneCell'=tZ) (d:base<=W.heap.size) (hlen:n<100000000)
  (h: ∀i w',Du W base e size v n xs ys i w'->K (a.put o.dst i) w'):
  if Region.wanted o (yielded ops a.tmps)=tZ then Oper.wp P o a W K Q else E:=by
 have hw:Region.wanted o (yielded ops a.tmps)=true:=by simp[Region.wanted,k]
 rw[Ai hw];obtain⟨i,w',r,u⟩:=PL ht DH Ye Yf dO base W o.type v n xs l c ys f m b g d hlen;unfold Oper.wp;simp[execOp,p,resolve,invoke,builtin,q,hy,r,Result.andThen];exact h i w' u
end
theorem Du.some{W:rO}{v':tR}{ys:List tR}(h:Du W base e size v n xs ys v' w'): ∃g cap,v'=Y (Z ⟨g,0,N⟩) (n+1) cap:=by
 rcases C6 h.1 with⟨_,a⟩|⟨g,cap,a,_⟩
 ·simp at a
 ·exact⟨g,cap,a⟩
end
section
variable {P:Program}{l n:Nat}
end
variable {P:Program}{ops:Array Oper}{Q:Exit->Act->rO->Prop}{md:Region.Mode}
variable {listed:Array Bool}
theorem R0(i:Nat){oi:Oper}{v:tR}{fuel:Nat}{a:Act}{w:rO}(d:ops[i]?=Z oi)(b:(Region.noSelect ops&&(Region.free md ops listed i&&((Region.ready md ops listed).contains i&&Region.wanted oi (yielded ops a.tmps))))=tZ)(e: ∀c a w,Q (.panic c) (a.put oi.dst v) w->Q (.panic c) a w) (hy: ∀w,(execOp a.eval oi).run P w= .ok (.value v) w) (h:wpAny P md ops Q fuel (listed.setIfInBounds i tZ) (a.put oi.dst v) w):wpAny P md ops Q (fuel+1) listed a w:=by simp only[AR]at b;exact Zb8 d b.1 b.2.1 b.2.2.1 e (.inl ⟨b.2.2.2,hy⟩) h
theorem dP(i:Nat){o:Oper}{fuel:Nat}{a:Act}{w:rO}(c:Region.ready md ops listed=[i])(d:ops[i]?=Z o)(h: ∀b:Act->rO->Prop,(∀a w,wpAny P md ops Q fuel (listed.setIfInBounds i tZ) a w->b a w)->if Region.wanted o (yielded ops a.tmps)=tZ then Oper.wp P o a w b Q else b (a.put o.dst undef) w):wpAny P md ops Q (fuel+1) listed a w:=B9 c (by simp) (Zat d h Zb6)
end Go.CN
