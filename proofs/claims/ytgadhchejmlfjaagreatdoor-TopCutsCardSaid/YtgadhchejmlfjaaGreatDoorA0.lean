/- A part of the proof. -/
import Derived.Lib.ItoaNum
import Derived.Lib.Split
import Derived.KernelRfl
import Derived.ArgAppend
import Derived.Below
import Derived.ChangeSame
import Derived.ControlIn
import Derived.Deep.Fields
import Derived.Deep.OwnRows
import Derived.Deep.RegionLaw
import Derived.Deep.Slices
import Derived.Laws.AppendOwnNone
import Derived.Laws.OwnMore
import Derived.Lib.Hide
import Derived.Maps.AppendAt
import Derived.Maps.Range
import Derived.OneCell
import Derived.OrdersIn
import Derived.OwnWalk
import Derived.OwnWalkIn
import Derived.ProofKit
import Derived.RangeFuncBox
import Derived.RangeFuncCalls
import Derived.WalkKit
import Derived.WalkSmall
import Derived.WalkSpells
import Derived.Test.YtgadhchejmlfjaaGreatDoorRows
import Derived.Deep.QuietTactic
import Derived.BigQuiet
import Derived.BigGuard
import Derived.WalkLawsBesides
import Derived.Outline
import Derived.Shelf.Strings.Builder1
import Derived.Shelf.Strings.OnBuilder
import Derived.Shelf.Small.Wraps
import Derived.Shelf.Strconv.Itoa3
import Derived.Shelf.Strconv.Itoa4
import Derived.Shelf.LaysM
import Derived.Shelf.Strings.Cut
import Derived.Shelf.Strings.Split
import Derived.BigRegion
import Derived.Laws.ResultCell
import Derived.Laws.StructEq
import Derived.RegionTactic
import Derived.WalkMore
import Derived.Deep.LoopGhost
import Derived.Lib.Join
import Derived.Deep.MidRow
import Derived.ChangeAlike
import Derived.Shelf.Strings.BuilderK
import Derived.Deep.RegionHeld3
import Derived.StillTailTactics
import Derived.Deep.DrawnRows
import Derived.LoopIn
import Derived.LoopNIn
import Derived.RangeFuncLeaves
import Derived.Shelf.Abstract
import Derived.TacticsInMore
import Derived.Deep.DeepCutAuto
import Derived.Deep.RegionWith
import Derived.OpenShut
import Derived.Stop.RegionWithIn
import Derived.Lib.SliceRun
import Derived.LaidEqlPtr
import Derived.OrdersHeld
import Derived.Deep.RegionHeld
import Derived.Laws.MakeOwn
import Derived.Laws.CopyOwn
import Derived.Deep.CutRange
import Derived.Lib.AppendZeros
import Derived.ChangeOld
import Derived.Test.YtgadhchejmlfjaaGreatDoorTie
import Derived.Test.YtgadhchejmlfjaaGreatDoorCards
import Derived.JoinedOf
import Derived.SevenTiedAt
import Derived.Stop.Joined
import Derived.ShutString
import Derived.LaidLaws
import Derived.LaidHandle
import Derived.Lay
import Derived.Lib.LaidTab
import Derived.Lib.LaidU8
import Derived.Shelf.Vars
set_option linter.unusedVariables false
set_option maxRecDepth 20000
set_option maxHeartbeats 16000000
open Go.Value renaming int→I,pointer→J,slice→Y
open Go.IntKind renaming i64→U
open Option renaming none→N,some→Z
set_option linter.defProp false
open Bool renaming false→rm,true→rq
open Go renaming Calls→re,TypeId→rA,Value→qY,World→oZ
open Go.Ending renaming returned→rC
open Go.Obj renaming cells→rD
open Go.RowKit renaming Below→qZ
open Go.RowKit.Below renaming refl→rf
open Go.Value renaming bool→ry,ownBlock→ru,string→rF,tuple→rG
open Go.World renaming setCell→rh
namespace Go
def Aa:=@Go.Lib.hid
def Ab:=@And.intro
def Ac:=@List.getElem?_cons_zero
def Ad:=@List.getElem?_toArray
def Ae:=@List.getElem?_eq_getElem
def Af:=@List.getElem?_eq_some_iff
def Ag:=@List.getElem?_cons_succ
def Ah:=@if_neg
def Ai:=@if_pos
def Aj:=@List.getElem?_set_self
def Ak:=@Option.some.injEq
def Al:=@Nat.le_refl
def Am:=@Nat.lt_of_lt_of_le
def An:=@Int.toNat_natCast
def Ao:=@List.getElem?_set_ne
def Ap:=@Nat.zero_le
def Aq:=@congrArg
def Ar:=@Go.Value.slice.injEq
def As:=@List.getElem?_set
def Au:=@beq_eq_false_iff_ne
def Av:=@Option.bind_eq_some_iff
def Aw:=@List.length_append
def Ax:=@Option.map_eq_some_iff
def Ay:=@Go.WideShapes.add_plain
def Az:=@Go.World.ownsRow.lt
def AA:=@Int.eq_ofNat_of_zero_le
def AB:=@List.length_cons
def AD:=@List.getElem?_append_left
def AE:=@Nat.le_trans
def AF:=@List.length_nil
def AG:=@Go.bodyPost_ret
def AH:=@Go.World.cell?_of_block
def AJ:=@List.getElem?_append_right
def AK:=@List.getElem?_take_of_lt
def AL:=@Go.World.ownsRow_nil
def AM:=@Prod.mk.injEq
def AN:=@List.length_take
def AO:=@Nat.zero_add
def AP:=@Bool.and_eq_true
def AQ:=@Option.getD_some
def AR:=@List.append_assoc
def AU:=@List.take_of_length_le
def AV:=@List.length_set
def AW:=@Array.getElem?_toList
def AX:=@List.mem_append_right
def AY:=@Nat.lt_or_ge
def AZ:=@decide_eq_true
def A0:=@List.drop_eq_getElem_cons
def A3:=@List.length_eq_zero_iff
def A6:=@List.mem_cons_of_mem
def A7:=@List.mem_of_getElem?
def A8:=@List.take_succ_eq_append_getElem
def A9:=@List.getElem?_eq_none
def Ba:=@List.setIfInBounds_toArray
def Bb:=@decide_eq_false
def Bc:=@decide_eq_true_eq
def Bd:=@List.size_toArray
def Be:=@List.all_eq_true
def Bg:=@List.length_map
def Bh:=@Nat.le_succ
def Bi:=@Array.getElem?_eq_some_iff
def Bj:=@List.set_cons_zero
def Bk:=@Option.some.inj
def Bl:=@List.mem_append_left
def Bm:=@List.take_append_drop
def Bn:=@List.getElem?_map
def Bo:=@List.cons_append
def Bp:=@Go.Exit.noGoto_ret
def Bq:=@List.nil_append
def Br:=@Array.replicate_succ
def Bt:=@Array.replicate_zero
def Bu:=@List.map_set
def Bv:=@List.mem_cons
def Bw:=@List.append_toArray
def Bz:=@List.perm_iff_count
def BA:=@Option.map_some
def BB:=@List.nodup_cons
def BC:=@List.ext_getElem?
def BD:=@List.flatMap_cons
def BE:=@List.getElem?_replicate
def BF:=@Go.Addr.mk.injEq
def BG:=@Go.Calls.quiet_of_same
def BH:=@if_false
def BI:=@List.getElem_mem
def BJ:=@List.take_length
def BK:=@List.push_toArray
def BL:=@List.count_append
def BM:=@if_true
def BN:=@List.mem_range
def BO:=@Go.results_cell_tmp
def BP:=@Nat.le_succ_of_le
def BQ:=@Go.wpAny_ready
def BR:=@List.forall_mem_cons
def BT:=@Ne.symm
def BU:=@List.mem_append
def BV:=@Nat.not_lt_zero
def BW:=@List.length_drop
def BX:=@Go.below_drewN
def BZ:=@List.set_cons_succ
def B6:=@Bool.false_eq_true
def B7:=@List.range_succ
def B8:=@List.mem_map
def B9:=@Go.World.cell?_setCell_other
def Ca:=@List.take_add_one
def Cb:=@List.nodup_append
def Cc:=@of_decide_eq_true
def Cd:=@List.length_replicate
def Ce:=@List.length_filter_le
def Cf:=@List.append_nil
def Cg:=@Nat.sub_self
def Ch:=@Go.run_underlying
def Ci:=@List.length_pos_iff
def Cj:=@List.map_append
def Ck:=@List.mem_of_mem_erase
def Cm:=@List.perm_append_comm
def Cn:=@Go.RowKit.Below.heap_alloc
def Co:=@List.getElem?_take
def Cp:=@Bool.false_ne_true
def Cq:=@Go.run_append_arg_grows
def Cs:=@Nat.mul_le_mul_right
def Zaa:=@Go.IntWalk.i64_in
def Zab:=@List.map_congr_left
def Zac:=@List.countP_eq_zero
def Zad:=@Array.getElem?_eq_none
def Zae:=@List.drop_of_length_le
def Zaf:=@Go.callsIn_of_wp
def Zag:=@Int.le_refl
def Zah:=@Go.RowKit.Below.heap_setCell
def Zai:=@List.getElem?_drop
def Zaj:=@List.countP_append
def Zak:=@List.count_nil
def Zal:=@List.countP_le_length
def Zam:=@Go.Lib.run_eql_slice_nil
def Zan:=@List.erase_of_not_mem
def Zao:=@List.mem_or_eq_of_mem_set
def Zap:=@Bool.not_eq_true'
def Zaq:=@List.mem_of_mem_take
def Zar:=@AllReady.cons
def Zas:=@List.eq_of_mem_replicate
def Zat:=@List.drop_length
def Zau:=@Go.IntWalk.u32_in
def Zav:=@Go.IntKind.wrap_i64
def Zaw:=@Int.emod_lt_of_pos
def Zax:=@List.filter_append
def Zay:=@Int.natCast_nonneg
def Zaz:=@List.count_cons
def Za0:=@List.Perm.append_left
def Za1:=@Go.Lib.wpList_append_run
def Za2:=@beq_iff_eq
def Za3:=@List.mem_of_mem_drop
def Za4:=@Go.Calls.quiet_of
def Za5:=@List.drop_zero
def Za6:=@List.getElem?_of_mem
def Za7:=@Array.getElem?_eq_getElem
def Za8:=@Classical.byContradiction
def Za9:=@List.forall_mem_nil
def Zba:=@List.take_succ_cons
def Zbb:=@Array.length_toList
def Zbc:=@Array.setIfInBounds_comm
def Zbd:=@Int.emod_nonneg
def Zbe:=@List.cons.injEq
def Zbf:=@Nat.min_eq_left
def Zbg:=@Go.World.ownsRow.kept
def Zbh:=@Option.toList_some
def Zbi:=@List.drop_eq_nil_of_le
def Zbj:=@List.take_zero
def Zbk:=@List.Perm.append_right
def Zbl:=@List.ext_getElem
def Zbm:=@List.getElem_map
def Zbn:=@Nat.mod_lt
def Zbo:=@List.not_mem_nil
def Zbp:=@List.mem_flatMap
def Zbq:=@Nat.lt_irrefl
def Zbr:=@Go.RowKit.Below.setCell
def Zbs:=@Nat.mul_one
def Zbt:=@List.replicate_succ'
def Zbu:=@List.mem_iff_getElem
def Zbv:=@List.getElem?_mapIdx
def Zbw:=@Int.ediv_nonneg
def Zbx:=@List.length_reverse
def Zby:=@List.drop_succ_cons
def Zbz:=@List.flatMap_append
def Zb0:=@List.countP_pos_iff
def Zb1:=@Go.AllReady.nil
def Zb2:=@Nat.zero_mul
def Zb3:=@Nat.add_zero
def Zb4:=@Int.lt_tmod_of_pos
def Zb5:=@List.take_take
def Zb6:=@Go.wpAny_take
def Zb7:=@List.mem_singleton
def Zb8:=@List.getElem_range
def Zb9:=@Nat.pos_of_ne_zero
def Zca:=@List.take_set
def Zcb:=@Bool.true_and
end Go
namespace Go.Proofs.YtgadhchejmlfjaaGreatDoor.FM
open Go
theorem IY(c:UInt8)(b:List UInt8): ∀a:List UInt8,c∉a→Lib.index (a++c::b) [c]=a.length
 | [],_=>by simp[Lib.index,List.isPrefixOf]
 |x::a,h=>by
  have d:(c==x)=false:=by simp;intro e;exact h (by simp[e])
  have f:=IY c b a (fun e=>h (A6 _ e));rw[Bo,Lib.index];rw[show([c].isPrefixOf (x::(a++c::b)))=rm by simp[List.isPrefixOf,d],f];rw[Ah (by decide),Ah (by simp)];simp
theorem index_none(c:UInt8): ∀a:List UInt8,c∉a→Lib.index a [c]= -1
 | [],_=>by simp[Lib.index]
 |x::a,h=>by
  have b:(c==x)=false:=by simp;intro e;exact h (by simp[e])
  have d:=index_none c a (fun e=>h (A6 _ e));rw[Lib.index,show([c].isPrefixOf (x::a))=rm by simp[List.isPrefixOf,b],d];rw[Ah (by decide),Ai (by decide)]
theorem TK(c:UInt8)(a b:List UInt8)(h:c∉a):Lib.cut (a++c::b) [c]=(a,b,rq):=by unfold Lib.cut;rw[IY c b a h,Ai (by omega)];simp
theorem RD(c:UInt8)(a:List UInt8)(h:c∉a)(f:Nat):Lib.countFrom [c] f a=0:=by
 cases f with
 |zero=>rfl
 |succ f=>rw[Lib.countFrom,index_none c a h,Ai (by decide)]
theorem UQ(c:UInt8)(a b:List UInt8)(h:c∉a)(f:Nat):Lib.countFrom [c] (f+1) (a++c::b)=1+Lib.countFrom [c] f b:=by rw[Lib.countFrom,IY c b a h,Ah (by simp)];congr 2;simp
theorem RE(c:UInt8)(a b:List UInt8)(h:c∉a)(k:Nat):Lib.splitK [c] 0 (k+1) (a++c::b)=a::Lib.splitK [c] 0 k b:=by rw[Lib.splitK,IY c b a h,Ah (by simp)];simp
def CZ(c:UInt8):List (List UInt8)→List UInt8
 | []=>[]
 | [a]=>a
 |a::b::l=>a++c::CZ c (b::l)
theorem Pn(c:UInt8): ∀l:List (List UInt8),l.length≤(CZ c l).length+1
 | []=>by simp
 | [a]=>by simp
 |a::b::l=>by
  have:=Pn c (b::l);simp only[CZ,Aw,AB]at*
  omega
theorem Me(c:UInt8): ∀(l:List (List UInt8))(f:Nat),l≠[]→(∀a∈l,c∉a)→l.length≤f+1→Lib.countFrom [c] f (CZ c l)=l.length-1
 | [],_,h,_,_=>absurd rfl h
 | [a],f,_,h,_=>by rw[CZ,RD c a (h a (by simp)) f];rfl
 |a::b::l,f,_,h,d=>by obtain⟨f,rfl⟩: ∃g,f=g+1:=⟨f-1,by simp at d;omega⟩;rw[CZ,UQ c a _ (h a (by simp)) f,Me c (b::l) f (by simp) (fun x e=>h x (A6 _ e)) (by simp at d⊢;omega)];simp;omega
theorem Lh(c:UInt8): ∀(l:List (List UInt8)),l≠[]→(∀a∈l,c∉a)→Lib.splitK [c] 0 (l.length-1) (CZ c l)=l
 | [],h,_=>absurd rfl h
 | [a],_,h=>rfl
 |a::b::l,_,h=>by have d:=Lh c (b::l) (by simp) (fun x e=>h x (A6 _ e));rw[show(a::b::l).length-1=((b::l).length-1)+1 by simp,CZ,RE c a _ (h a (by simp)),d]
theorem UR(x:ByteArray):x=⟨x.data.toList.toArray⟩:=by cases x;simp
theorem Li(c:UInt8)(l:List (List UInt8))(b:l≠[])(h: ∀a∈l,c∉a):Lib.countB ⟨(CZ c l).toArray⟩ ⟨#[c]⟩=l.length-1∧Lib.splitB ⟨#[c]⟩ 0 (l.length-1) ⟨(CZ c l).toArray⟩=l.map fun a=>⟨a.toArray⟩:=by
 constructor
 ·show Lib.count _ _=_
  unfold Lib.count;exact Me c l _ b h (by have:=Pn c l;simp at this⊢;omega)
 ·have e:=Lib.splitB_data ⟨#[c]⟩ 0 (l.length-1) ⟨(CZ c l).toArray⟩
  rw[show(⟨#[c]⟩:ByteArray).data.toList=[c]from rfl,show(⟨(CZ c l).toArray⟩:ByteArray).data.toList=CZ c l from by simp,Lh c l b h]at e;have d:=Aq (List.map fun a:List UInt8=>(⟨a.toArray⟩:ByteArray)) e;rw[List.map_map]at d;rw[←d];exact(List.map_id' _).symm.trans (Zab fun x _=>UR x)
def Po:Nat→Nat→List UInt8
 |0,_=>[]
 |f+1,u=>if u<10 then [UInt8.ofNat (48+u)]else Po f (u/10)++[UInt8.ofNat (48+u%10)]
theorem TL: ∀(f u:Nat),u<10^(f+1)→Lib.decDigits u=Po (f+1) u
 |0,u,h=>by rw[Lib.decDigits,dif_pos (by simpa using h),Po,Ai (by simpa using h)]
 |f+1,u,h=>by
  rw[Lib.decDigits,Po];by_cases a:u<10
  ·rw[dif_pos a,Ai a]
  ·rw[dif_neg a,Ah a,TL f (u/10) (by rw[Nat.pow_succ]at h;omega)]
theorem Mf(n:Nat)(h:n<1000000):Lib.itoa n=Po 6 n:=by unfold Lib.itoa;rw[Ah (by omega),An];exact TL 5 n (by simpa using h)
def GV(l:List UInt8):Nat:=l.foldl (fun a c=>a*10+(c.toNat-48)) 0
def Hz(l:List UInt8):Bool:=!l.isEmpty&&decide (l.length≤15)&&l.all (fun c=>decide (48≤c.toNat∧c.toNat≤57))&&(l== [48]||l.head? !=Z 48)
theorem Ns(l:List UInt8)(k:Nat)(h:k<l.length):GV (l.take (k+1))=GV (l.take k)*10+(l[k].toNat-48):=by unfold GV;rw[Ca,List.foldl_append,Ae h];rfl
theorem Oe(l:List UInt8)(hd: ∀c∈l,48≤c.toNat∧c.toNat≤57): ∀k,k≤l.length→GV (l.take k)<10^k
 |0,_=>by simp[GV]
 |k+1,h=>by have a:=Oe l hd k (by omega);rw[Ns l k (by omega),Nat.pow_succ];have:=hd l[k] (BI (by omega));omega
def XG(n:Nat):Bool:=Hz (Po 6 n)&&GV (Po 6 n)==n&&(Po 6 n).all (fun c=>c !=32&&c !=10)
theorem US:(List.range 1500).all XG=true:=by kernel_rfl
theorem Mg(n:Nat)(h:n<1500):Hz (Lib.itoa n)=rq∧GV (Lib.itoa n)=n∧32∉Lib.itoa n∧10∉Lib.itoa n∧(Lib.itoa n).length≤15:=by rw[Mf n (by omega)];have a:=Be.1 US n (BN.2 h);unfold XG at a;simp only[AP,Za2,Be,bne_iff_ne,ne_eq]at a;refine⟨a.1.1,a.1.2,fun e=>(a.2 32 e).1 rfl,fun e=>(a.2 10 e).2 rfl,?_⟩;have b:=a.1.1;unfold Hz at b;simp only[AP,Bc]at b;exact b.1.1.2
def DL(x:Int×Int×Int):List UInt8:=CZ 32 [Lib.itoa x.1,Lib.itoa x.2.1,Lib.itoa x.2.2]
def C7(l:List (Int×Int×Int)):List UInt8:=l.flatMap fun x=>DL x++[10]
theorem Ip(x:Int×Int×Int)(l:List (Int×Int×Int)):C7 (x::l)=DL x++10::C7 l:=by simp[C7]
theorem Pp(l:List (Int×Int×Int))(x:Int×Int×Int):C7 (l++[x])=C7 l++(DL x++[10]):=by simp[C7]
def TM(x:Int×Int×Int):Prop:=(0≤x.1∧x.1<1500)∧(0≤x.2.1∧x.2.1<1500)∧(0≤x.2.2∧x.2.2<1500)
theorem C0(a:Int)(h:0≤a∧a<1500):Hz (Lib.itoa a)=rq∧(GV (Lib.itoa a):Int)=a∧32∉Lib.itoa a∧10∉Lib.itoa a∧(Lib.itoa a).length≤15:=by obtain⟨n,rfl⟩: ∃n:Nat,a=n:=⟨a.toNat,by omega⟩;have:=Mg n (by omega);exact⟨this.1,by rw[this.2.1],this.2.2⟩
theorem UT(x:Int×Int×Int)(h:TM x):(10:UInt8)∉DL x:=by have a:=(C0 _ h.1).2.2.2.1;have b:=(C0 _ h.2.1).2.2.2.1;have c:=(C0 _ h.2.2).2.2.2.1;simp only[DL,CZ,BU,Bv,not_or];exact⟨a,by decide,b,by decide,c⟩
theorem J1(x:Int×Int×Int)(h:TM x):(DL x).length≤47:=by have a:=(C0 _ h.1).2.2.2.2;have b:=(C0 _ h.2.1).2.2.2.2;have c:=(C0 _ h.2.2).2.2.2.2;simp only[DL,CZ,Aw,AB];omega
theorem Nt(l:List (Int×Int×Int))(h: ∀x∈l,TM x):(C7 l).length≤l.length*48:=by
 induction l with
 |nil=>simp[C7]
 |cons x l a=>have b:=J1 x (h x (by simp));have c:=a (fun y hy=>h y (A6 _ hy));rw[Ip];simp only[Aw,AB];omega
theorem UU(x:Int×Int×Int)(l:List (Int×Int×Int))(h:TM x):Lib.cut (C7 (x::l)) [10]=(DL x,C7 l,rq):=by rw[Ip];exact TK 10 _ _ (UT x h)
theorem XH(x:Int×Int×Int)(l:List (Int×Int×Int)):C7 (x::l)≠[]:=by rw[Ip];simp
end Go.Proofs.YtgadhchejmlfjaaGreatDoor.FM
namespace Go.CL
section
open Go.RowKit
variable {w w' a:oZ} {b c:Nat} {cs:Array qY} {t:rA} {row:Option Nat} {x y u:qY}
def Cx(w:oZ)(b:Nat)(cs:Array qY)(t:rA):Prop:=w.heap[b]?=Z (rD cs t (0,0))
theorem Cx.cell(h:Cx w b cs t)(i:Nat):w.cell? ⟨b,i,N⟩=cs[i]?:=by unfold Cx at h;simp[World.cell?,h]
theorem Cx.free(h:Cx w b cs t)(i:Nat):w.frozen? ⟨b,i,N⟩=false:=by unfold Cx at h;simp[World.frozen?,h]
theorem Cx.lt(h:Cx w b cs t):b<w.heap.size:=lt_of_block h
theorem Cx.kept(h:Cx w b cs t)(c:w.grownBy w' row)(a:Z b≠row):Cx w' b cs t:=(c.block b h.lt a).trans h
theorem Cx.below{B:Nat}(h:Cx w b cs t)(c:qZ B w w')(a:b<B):Cx w' b cs t:=(c.block b a).trans h
theorem Cx.alloc(h:Cx w b cs t)(o:Obj):Cx (w.alloc o) b cs t:=h.kept (World.grownBy_alloc w o N) (by simp)
theorem Cx.drew(h:Cx w b cs t):Cx w.drew b cs t:=h
theorem Cx.new(w:oZ)(cs:Array qY)(t:rA):Cx (w.alloc (rD cs t)) w.heap.size cs t:=by show(w.heap.push _)[w.heap.size]?=_;simp
theorem Cx.Iq(cs:Array qY)(t:rA)(h:w.heap.size=b):Cx (w.alloc (rD cs t)) b cs t:=h▸Cx.new w cs t
theorem Cx.set(h:Cx w b cs t)(i:Nat)(u:qY):Cx (w.setCell ⟨b,i,N⟩ u) b (cs.setIfInBounds i u) t:=by
 have a:=h.lt;unfold Cx at h⊢;have c:w.heap[b]=rD cs t (0,0):=by simpa[Za7 a]using h
 show(w.heap.modify b _)[b]?=_;rw[Za7 (by simpa using a),Array.getElem_modify_self,c];rfl
theorem Cx.setOther{i:Nat}(h:Cx w b cs t)(a:b≠c)(u:qY):Cx (w.setCell ⟨c,i,N⟩ u) b cs t:=(Zah w ⟨c,i,N⟩ u b a).trans h
theorem RF(w:oZ)(row:Option Nat):w.grownBy w row:=⟨rfl,rfl,rfl,Al _,fun _ _ _=>rfl⟩
theorem DK(w:oZ)(b i:Nat)(u:qY):w.grownBy (w.setCell ⟨b,i,N⟩ u) (Z b):=⟨rfl,rfl,rfl,by simp[rh],fun k _ a=>Zah w ⟨b,i,N⟩ u k (fun e=>a (by simp[e]))⟩
theorem RG(w:oZ)(row:Option Nat):w.grownBy w.drew row:=⟨rfl,rfl,rfl,Al _,fun _ _ _=>rfl⟩
theorem EP(h:qZ w.heap.size w w')(row:Option Nat):w.grownBy w' row:=⟨h.os,h.tape,h.output,h.size,fun k a _=>h.block k a⟩
theorem Cx.RH(h:Cx w b #[x,y] t):Cx (w.setCell ⟨b,0,N⟩ u) b #[u,y] t:=h.set 0 u
theorem Cx.Mh(h:Cx w b #[x,y] t):Cx (w.setCell ⟨b,1,N⟩ u) b #[x,u] t:=h.set 1 u
theorem Ct(h:qZ a.heap.size a w)(o:Obj):qZ a.heap.size a (w.alloc o):=h.alloc h.size o
theorem C2(h:qZ a.heap.size a w)(b:a.heap.size≤c)(i:Nat)(u:qY):qZ a.heap.size a (w.setCell ⟨c,i,N⟩ u):=h.setCell b u
theorem CI(h:qZ a.heap.size a w)(b:w.grownBy w' row)(c: ∀k,row=Z k→a.heap.size≤k):qZ a.heap.size a w':=h.grown b h.size c
theorem Cu(h:qZ a.heap.size a w)(b:qZ w.heap.size w w'):qZ a.heap.size a w':=h.trans (b.mono h.size)
theorem Ft{W w1:oZ}(a:qZ W.heap.size W w1):(∀b o,b<W.heap.size→w1.cell? ⟨b,o,N⟩=W.cell? ⟨b,o,N⟩)∧(∀b o,b<W.heap.size→w1.frozen? ⟨b,o,N⟩=W.frozen? ⟨b,o,N⟩):=⟨fun b o h=>a.cell (p:=⟨b,o,N⟩) h,fun b o h=>a.frozen (p:=⟨b,o,N⟩) h⟩
theorem Gy{k:IntKind}{a b:Int}(h:a=b):Ending.returned (.int k a)=rC (.int k b):=by rw[h]
theorem XI{a b:Bool}(h:a=b):Ending.returned (ry a)=rC (ry b):=by rw[h]
end
section
open Go.RowKit
theorem F5{w w':oZ}(h:qZ w.drew.heap.size w.drew w'):qZ w.heap.size w w':=⟨h.os,h.tape,h.output,h.size,h.block⟩
end
section
open Go.ChangeShapes Go.WideShapes Go.Deep Go.RowKit
theorem EJ{w:oZ}{a:Addr}{v:qY}(h:w.cell? a=Z v):a.block<w.heap.size:=by
 unfold World.cell? at h;rcases AY a.block w.heap.size with b|b
 ·exact b
 ·simp[Zad b]at h
section
variable {H:Type} {Lj:rA×qY→H} {P:Program} {w:oZ} {base:Nat} {spare:Nat→Bool} {held:Bool}
end
end
section
open Go.RowKit
variable {w w':oZ} {base:Nat} {v:qY} {l:List Int}
def Sl(w:oZ)(v:qY)(l:List Int):Prop:=
 ∃a cap,v= .slice a l.length cap∧l.length≤maxLen∧
  (l=[]∨ ∃b off,a=Z ⟨b,off,N⟩∧b<w.heap.size∧ ∀i,i<l.length→w.cell? ⟨b,off+i,N⟩=Z (I U (l[i]?.getD 0)))
def CF(w:oZ)(base:Nat)(v:qY)(l:List Int):Prop:=w.ownsRow base 3 1 v l.length (l.map (I U))
theorem Sl.nil(w:oZ):Sl w (Y N 0 0) []:=⟨N,0,rfl,Ap _,.inl rfl⟩
theorem Sl.Eh(h:CF w base v l):Sl w v l:=by
 obtain⟨_,⟨rfl,d⟩|⟨g,cap,cur,rfl,_,b,e,hm,f,ht⟩⟩:=h
 ·have:l=[]:=A3.1 d
  subst this;exact Sl.nil w
 ·refine⟨_,cap,rfl,AE e hm,.inr ⟨g,0,rfl,(Bi.1 b).1,fun i a=>?_⟩⟩
  rw[Zbs]at ht f;have c:(cur.toList.take l.length)[i]?=(l.map (I U))[i]?:=by rw[ht]
  rw[AK a,Bn,Ae a]at c;simp[World.cell?,b];simpa[a]using c
theorem CF.nil(w:oZ)(base:Nat):CF w base (Y N 0 0) []:=AL w base 3 1
theorem CF.lt(h:CF w base v l): ∀k,v.ownBlock=Z k→base≤k∧k<w.heap.size:=Az h
theorem CF.kept{row:Option Nat}(h:CF w base v l)(b:w.grownBy w' row)(a:v.ownBlock=N∨v.ownBlock≠row):CF w' base v l:=Zbg h b a
theorem CF.below(h:CF w base v l)(a:qZ w.heap.size w w'):CF w' base v l:=h.kept (EP a N) (by cases b:v.ownBlock<;>simp)
theorem CF.mono{Mi:Nat}(h:CF w base v l)(b:Mi≤base):CF w Mi v l:=by
 obtain⟨a,c|⟨g,cap,cur,d,e,f,r⟩⟩:=h
 ·exact⟨a,.inl c⟩
 ·exact⟨a,.inr ⟨g,cap,cur,d,AE b e,f,r⟩⟩
theorem CF.drewN(h:CF w base v l)(n:Nat):CF (w.drewN n) base v l:=h
end
section
open Go.RowKit
variable {w:oZ} {g m i:Nat} {t:rA} {F:Nat→qY}
def Dv(w:oZ)(g m:Nat)(t:rA)(F:Nat→qY):Prop:= ∃cs,Cx w g cs t∧cs.size=m∧ ∀i,i<m→cs[i]?=Z (F i)
theorem Dv.lt(h:Dv w g m t F):g<w.heap.size:=by obtain⟨cs,a,_⟩:=h;exact a.lt
theorem Dv.cell(h:Dv w g m t F)(a:i<m):w.cell? ⟨g,i,N⟩=Z (F i):=by obtain⟨cs,b,_,c⟩:=h;rw[b.cell];exact c i a
theorem Dv.free(h:Dv w g m t F)(i:Nat):w.frozen? ⟨g,i,N⟩=false:=by obtain⟨cs,a,_⟩:=h;exact a.free i
theorem Dv.kept{w':oZ}{row:Option Nat}(h:Dv w g m t F)(b:w.grownBy w' row)(a:Z g≠row):Dv w' g m t F:=by obtain⟨cs,c,r⟩:=h;exact⟨cs,c.kept b a,r⟩
theorem Dv.alloc(h:Dv w g m t F)(o:Obj):Dv (w.alloc o) g m t F:=by obtain⟨cs,a,r⟩:=h;exact⟨cs,a.alloc o,r⟩
theorem Dv.congr{G:Nat→qY}(h:Dv w g m t F)(a: ∀i,i<m→F i=G i):Dv w g m t G:=by obtain⟨cs,c,d,r⟩:=h;exact⟨cs,c,d,fun i b=>by rw[r i b,a i b]⟩
theorem Dv.set(h:Dv w g m t F)(b:i<m)(u:qY):Dv (w.setCell ⟨g,i,N⟩ u) g m t (fun k=>if k=i then u else F k):=by
 obtain⟨cs,c,a,r⟩:=h;refine⟨_,c.set i u,by simpa using a,fun k d=>?_⟩;rw[Array.getElem?_setIfInBounds];by_cases he:i=k
 ·subst he;simp[a,b]
 ·have: ¬k=i:=fun e=>he e.symm
  simp[he,this,r k d]
theorem Dv.setOther{c:Nat}(h:Dv w g m t F)(a:g≠c)(u:qY):Dv (w.setCell ⟨c,i,N⟩ u) g m t F:=by obtain⟨cs,b,r⟩:=h;exact⟨cs,b.setOther a u,r⟩
theorem Dv.made(w:oZ)(m:Nat)(t:rA)(z:qY):Dv (w.alloc (rD (madeCells #[z] m) t)) w.heap.size m t (fun _=>z):=by
 refine⟨_,Cx.new w _ t,?_,fun i a=>?_⟩
 ·exact size_madeCells _ _
 ·simp[madeCells,a,Nat.mod_one]
end
section
open Go.RowKit
section
variable {P:Program} {t:rA} (ht:P.underlying t=Z (.slice 3)) (DC:(P.info? 3).map (fun i=>(i.zero,i.size,i.bytes))=Z (Z (I U 0),1,8))
include ht DC
theorem iB(base:Nat)(W:oZ)(x:Int){ops:Array Oper}{rest:List Oper}{o:Oper}{a:Act}{Q:Exit→Act→oZ→Prop}(e:o.guard=N)(s y:Operand)(n:o.op= .call {callee:=.builtin .append,args:=#[s,y],argTypes:=#[t,t]})(v:qY)(l:List Int)(p:a.eval s=v)(hy:a.eval y=Y (Z ⟨W.heap.size,0,N⟩) 1 1)
  (c:CF W base v l) (f:base≤W.heap.size) (hlen:l.length<100000000)
  (h: ∀d w',CF w' base d (l++[x])→W.grownBy w' v.ownBlock→(∃g cap,d=Y (Z ⟨g,0,N⟩) (l.length+1) cap)→wpList P ops Q rest (a.put o.dst d) w'):
  wpList P ops Q (o::rest) a (W.alloc (rD #[I U x] 3)):=by
 obtain⟨i0,q,i,j,k⟩:=info_parts DC;have b:W.ownsRow base 3 1 v l.length (l.map (I U)):=c;refine wpList_append_own _ e s y t n base 3 i0 (I U 0) 1 8 ht q i j k rfl (by decide) v l.length _ p (b.alloc _) ⟨W.heap.size,0,N⟩ 1 1 [I U x] hy rfl (cell_one_new _ _ _) (by simp[Value.oneCell']) (by unfold maxLen;omega) (by omega) (by simp;omega) ?_;intro d w' m r _;refine h d w' (by unfold CF;simpa using m) ?_ ?_
 ·exact(World.grownBy_alloc W _ _).trans r
 ·obtain⟨g,cap,rfl⟩:=ownsRow_succ m
  exact⟨g,cap,rfl⟩
end
end
def D3(i n:Int):Int:=if n<1 then 0 else i%n
theorem Of(i n:Int):0≤D3 i n:=by
 unfold D3;split
 ·omega
 ·exact Zbd _ (by omega)
theorem TN(i n:Int)(h:1≤n):D3 i n<n:=by unfold D3;rw[Ah (by omega)];exact Zaw _ (by omega)
theorem Pq(i n:Int)(h:1≤n):(i.tmod n+n).tmod n=i%n:=by
 have a:0≤i.tmod n+n:=by have:=Zb4 i (show(0:Int)<n by omega);omega
 rw[Int.tmod_eq_emod_of_nonneg a,Int.add_emod_right,Int.tmod_eq_emod];split
 ·simp
 ·have:((n.natAbs:Nat):Int)=n:=by omega
  rw[this];simp
def Ei(n start step:Int)(k:Nat):Int:=(D3 start n+k*step)%n
def FT(n step:Int):Prop:=n<1∨1024<n∨step<1∨1024<step
instance (n step:Int):Decidable (FT n step):=by unfold FT;infer_instance
def H3(n start step:Int):List Int:=if FT n step then []else(List.range n.toNat).map (Ei n start step)
theorem Ps(n start step:Int)(h:1≤n):Ei n start step 0=D3 start n:=by unfold Ei;have a:=Of start n;have b:=TN start n h;simp only[Int.natCast_zero,Int.zero_mul,Int.add_zero];exact Int.emod_eq_of_lt a b
theorem Pt(n start step:Int)(k:Nat):Ei n start step (k+1)=(Ei n start step k+step)%n:=by
 unfold Ei;rw[Int.emod_add_emod];congr 1;push_cast
 rw[Int.add_mul];omega
theorem UW(n start step:Int)(k:Nat)(h:1≤n):0≤Ei n start step k:=Zbd _ (by omega)
theorem UX(n start step:Int)(k:Nat)(h:1≤n):Ei n start step k<n:=Zaw _ (by omega)
theorem KG(n start step:Int):(H3 n start step).length≤1024:=by
 unfold H3;split
 ·simp
 ·rename_i h;unfold FT at h;simp;omega
section
open Go.RowKit
variable {S T:Nat→Prop} {a b c w w':oZ} {B base:Nat} {v:qY} {l:List Int}
structure Cv (S:Nat→Prop) (w w':oZ):Prop where
 os:w'.os=w.os
 tape:w'.tape=w.tape
 output:w'.output=w.output
 size:w.heap.size≤w'.heap.size
 block: ∀k,k<w.heap.size→ ¬S k→w'.heap[k]?=w.heap[k]?
theorem Cv.refl(S:Nat→Prop)(w:oZ):Cv S w w:=⟨rfl,rfl,rfl,Al _,fun _ _ _=>rfl⟩
theorem Cv.trans(h:Cv S a b)(k:Cv S b c):Cv S a c:=⟨k.os.trans h.os,k.tape.trans h.tape,k.output.trans h.output,AE h.size k.size,fun i d e=>(k.block i (Am d h.size) e).trans (h.block i d e)⟩
theorem Cv.mono(h:Cv S a b)(d: ∀k,k<a.heap.size→S k→T k):Cv T a b:=⟨h.os,h.tape,h.output,h.size,fun i c ht=>h.block i c (fun x=>ht (d i c x))⟩
theorem Cv.andThen(h:Cv S a b)(k:Cv T b c)(ht: ∀k,k<a.heap.size→T k→S k):Cv S a c:=⟨k.os.trans h.os,k.tape.trans h.tape,k.output.trans h.output,AE h.size k.size,fun i d e=>(k.block i (Am d h.size) (fun x=>e (ht i d x))).trans (h.block i d e)⟩
theorem Cv.alloc(h:Cv S a w)(o:Obj):Cv S a (w.alloc o):=⟨h.os,h.tape,h.output,AE h.size (by simp),fun i b c=>(Cn w o i (Am b h.size)).trans (h.block i b c)⟩
theorem Cv.drew(h:Cv S a w):Cv S a w.drew:=⟨h.os,h.tape,h.output,h.size,h.block⟩
theorem Cv.drewN(h:Cv S a w)(n:Nat):Cv S a (w.drewN n):=⟨h.os,h.tape,h.output,h.size,h.block⟩
theorem Cv.set{c:Nat}(h:Cv S a w)(f:a.heap.size≤c∨S c)(i:Nat)(u:qY):Cv S a (w.setCell ⟨c,i,N⟩ u):=⟨h.os,h.tape,h.output,AE h.size (by simp[rh]),fun k g b=>by rw[Zah w ⟨c,i,N⟩ u k (fun e=>f.elim (fun d=>absurd (show k=c from e) (by omega)) (fun d=>b (by rw[show k=c from e];exact d)))];exact h.block k g b⟩
theorem Cv.grown{row:Option Nat}(h:Cv S a w)(b:w.grownBy w' row)(f: ∀k,row=Z k→a.heap.size≤k∨S k):Cv S a w':=⟨b.os.trans h.os,b.tape.trans h.tape,b.output.trans h.output,AE h.size b.size,fun k c d=>by rw[b.block k (Am c h.size) (fun e=>(f k e.symm).elim (fun g=>absurd c (by omega)) d)];exact h.block k c d⟩
theorem Cv.below(h:Cv S a w)(b:qZ w.heap.size w w'):Cv S a w':=h.grown (EP b N) (fun k e=>by cases e)
theorem Cv.toBelow(h:Cv S w w')(a:B≤w.heap.size)(b: ∀k,S k→B≤k):qZ B w w':=⟨h.os,h.tape,h.output,h.size,fun k c=>h.block k (Am c a) (fun x=>by have:=b k x;omega)⟩
theorem Ej(h:qZ a.heap.size a w)(k:Cv S w w')(b: ∀k,S k→a.heap.size≤k):qZ a.heap.size a w':=h.trans (k.toBelow h.size b)
theorem Cx.only{b:Nat}{cs:Array qY}{t:rA}(h:Cx w b cs t)(k:Cv S w w')(a: ¬S b):Cx w' b cs t:=(k.block b h.lt a).trans h
theorem Dv.only{g m:Nat}{t:rA}{F:Nat→qY}(h:Dv w g m t F)(k:Cv S w w')(a: ¬S g):Dv w' g m t F:=by obtain⟨cs,b,r⟩:=h;exact⟨cs,b.only k a,r⟩
def UY(w:oZ)(B:Nat)(v:qY)(l:List Int):Prop:=
 ∃a cap,v= .slice a l.length cap∧((a=N→cap=0)∧l.length≤cap)∧l.length≤maxLen∧
  (l=[]∨ ∃b off,a=Z ⟨b,off,N⟩∧B≤b∧b<w.heap.size∧ ∀i,i<l.length→w.cell? ⟨b,off+i,N⟩=Z (I U (l[i]?.getD 0)))
theorem UY.nil(w:oZ)(B:Nat):UY w B (Y N 0 0) []:=⟨N,0,rfl,⟨fun _=>rfl,Al _⟩,Ap _,.inl rfl⟩
theorem UY.Eh(h:CF w base v l):UY w base v l:=by
 have f:=Sl.Eh h;have n:=h;obtain⟨_,⟨rfl,i⟩|⟨g,cap,cur,rfl,j,o,c,_⟩⟩:=h
 ·have:l=[]:=A3.1 i
  subst this;exact UY.nil w base
 ·obtain⟨a,e,he,hm,k|⟨b,off,rfl,d,m⟩⟩:=f
  ·exact⟨_,_,rfl,⟨(fun h=>by cases h),c⟩,hm,.inl k⟩
  ·simp only[Ar]at he
   obtain⟨he,_,rfl⟩:=he;cases he;exact⟨_,_,rfl,⟨(fun h=>by cases h),c⟩,hm,.inr ⟨_,_,rfl,j,d,m⟩⟩
theorem UY.drop{b off cap F6:Nat}{n:Nat}(h:UY w B (Y (Z ⟨b,off,N⟩) l.length cap) l)(k:Nat)(r:k≤l.length)(j:n=l.length-k)(d:n≤F6):UY w B (Y (Z ⟨b,off+k,N⟩) n F6) (l.drop k):=by
 subst j;obtain⟨a,c,f,_,hm,h⟩:=h;simp only[Ar]at f;obtain⟨rfl,_,_⟩:=f;refine⟨Z ⟨b,off+k,N⟩,F6,by simp,⟨(fun h=>by cases h),by simpa using d⟩,by simp;omega,?_⟩;rcases h with rfl|⟨s,g,he,m,o,p⟩
 ·left;simp
 ·cases he
  refine .inr ⟨b,off+k,rfl,m,o,fun i q=>?_⟩;have e:k+i<l.length:=by simp at q;omega
  rw[Nat.add_assoc,p (k+i) e,Zai]
theorem UY.open(h:UY w B v l):(v=Y N 0 0∧l=[])∨(∃c cap,v=Y (Z c) 0 cap∧l=[])∨ ∃b off cap,v=Y (Z ⟨b,off,N⟩) l.length cap∧l≠[]∧l.length≤cap∧B≤b∧b<w.heap.size∧ ∀i,i<l.length→w.cell? ⟨b,off+i,N⟩=Z (I U (l[i]?.getD 0)):=by
 obtain⟨a,cap,rfl,e,hm,h⟩:=h;by_cases d:l=[]
 ·subst d
  cases a with
  |none=>rw[e.1 rfl];exact .inl ⟨rfl,rfl⟩
  |some c=>exact .inr (.inl ⟨c,cap,rfl,rfl⟩)
 ·rcases h with h|⟨b,off,rfl,f,g,j⟩
  ·exact absurd h d
  ·exact .inr (.inr ⟨b,off,cap,rfl,d,e.2,f,g,j⟩)
section
variable {P:Program} {t:rA} (ht:P.underlying t=Z (.slice 3)) (DC:(P.info? 3).map (fun i=>(i.zero,i.size,i.bytes))=Z (Z (I U 0),1,8))
include ht DC
end
theorem CF.only(h:CF w base v l)(k:Cv S w w')(e: ∀b,base≤b→ ¬S b):CF w' base v l:=by
 obtain⟨a,f|⟨g,cap,cur,i,c,d,r⟩⟩:=h
 ·exact⟨a,.inl f⟩
 ·exact⟨a,.inr ⟨g,cap,cur,i,c,(k.block g (Bi.1 d).1 (e g c)).trans d,r⟩⟩
end
section
open Go.RowKit
variable {w w':oZ} {v:qY} {l:List Int} {base cap:Nat}
def DB(w:oZ)(v:qY)(l:List Int):Prop:=
 ∃a cap,v= .slice a l.length cap∧((a=N→cap=0)∧l.length≤cap)∧l.length≤maxLen∧
  (l=[]∨ ∃b off,a=Z ⟨b,off,N⟩∧b<w.heap.size∧ ∀i,i<l.length→w.cell? ⟨b,off+i,N⟩=Z (I U (l[i]?.getD 0)))
def H4(S:Nat→Prop)(v:qY):Prop:= ∀j,v.ownBlock=Z j→ ¬S j
theorem H4.nil(S:Nat→Prop):H4 S (Y N 0 0):=by intro j h;simp[ru]at h
theorem DB.TO(w:oZ)(a:Addr)(c:Nat):DB w (Y (Z a) 0 c) []:=⟨Z a,c,rfl,⟨(fun h=>by cases h),Ap _⟩,Ap _,.inl rfl⟩
theorem DB.len(h:DB w v l): ∃a cap,v= .slice a l.length cap:=by obtain⟨a,cap,b,_⟩:=h;exact⟨a,cap,b⟩
theorem DB.only{S:Nat→Prop}(h:DB w v l)(k:Cv S w w')(f:H4 S v):DB w' v l:=by
 obtain⟨a,cap,c,d,hm,h|⟨b,off,g,e,j⟩⟩:=h
 ·exact⟨a,cap,c,d,hm,.inl h⟩
 ·subst c g
  exact⟨_,cap,rfl,d,hm,.inr ⟨b,off,rfl,Am e k.size,fun i m=>(AH (k.block b e (f b rfl))).trans (j i m)⟩⟩
theorem DB.below(h:DB w v l)(a:qZ w.heap.size w w'):DB w' v l:=h.only (S:=fun _=>False) ((Cv.refl _ w).below a) (fun _ _ x=>x)
theorem DB.drewN(h:DB w v l)(n:Nat):DB (w.drewN n) v l:=h
theorem DB.alloc(h:DB w v l)(o:Obj):DB (w.alloc o) v l:=h.below (Ct (rf _ _) o)
theorem DB.gI{B:Nat}(h:UY w B v l):DB w v l:=by
 obtain⟨a,cap,c,d,hm,h|⟨b,off,e,_,f,g⟩⟩:=h
 ·exact⟨a,cap,c,d,hm,.inl h⟩
 ·exact⟨a,cap,c,d,hm,.inr ⟨b,off,e,f,g⟩⟩
theorem DB.Eh(h:CF w base v l):DB w v l:=DB.gI (UY.Eh h)
theorem DB.gJ(h:DB w v l):UY w 0 v l:=by
 obtain⟨a,cap,c,d,hm,h|⟨b,off,e,f,g⟩⟩:=h
 ·exact⟨a,cap,c,d,hm,.inl h⟩
 ·exact⟨a,cap,c,d,hm,.inr ⟨b,off,e,Ap _,f,g⟩⟩
theorem DB.lt(h:DB w v l)(c:l≠[]): ∀j,v.ownBlock=Z j→j<w.heap.size:=by
 obtain⟨a,cap,rfl,e,hm,h|⟨b,off,rfl,f,g⟩⟩:=h
 ·exact absurd h c
 ·intro j d;simp[ru]at d;omega
theorem DB.drop{b off F6:Nat}{n:Nat}(h:DB w (Y (Z ⟨b,off,N⟩) l.length cap) l)(k:Nat)(c:k≤l.length)(d:n=l.length-k)(a:n≤F6):DB w (Y (Z ⟨b,off+k,N⟩) n F6) (l.drop k):=DB.gI (h.gJ.drop k c d a)
theorem DB.open(h:DB w v l):(v=Y N 0 0∧l=[])∨(∃a cap,v=Y (Z a) 0 cap∧l=[])∨ ∃b off cap,v=Y (Z ⟨b,off,N⟩) l.length cap∧l≠[]∧l.length≤cap∧b<w.heap.size∧ ∀i,i<l.length→w.cell? ⟨b,off+i,N⟩=Z (I U (l[i]?.getD 0)):=by
 rcases h.gJ.open with h|h|⟨b,off,cap,c,d,e,_,f,g⟩
 ·exact .inl h
 ·exact .inr (.inl h)
 ·exact .inr (.inr ⟨b,off,cap,c,d,e,f,g⟩)
theorem DB.new(w:oZ)(l:List Int)(h:l.length≤maxLen):DB (w.alloc (rD (l.map (I U)).toArray 3)) (Y (Z ⟨w.heap.size,0,N⟩) l.length l.length) l:=by refine⟨_,_,rfl,⟨(fun h=>by cases h),Al _⟩,h,.inr ⟨_,0,rfl,by simp,fun i a=>?_⟩⟩;rw[(Cx.new w _ 3).cell];simp[a]
theorem CF.shrink{g m:Nat}(h:CF w base (Y (Z ⟨g,0,N⟩) m cap) l)(k:Nat)(i:k≤l.length):CF w base (Y (Z ⟨g,0,N⟩) k cap) (l.take k):=by
 obtain⟨j,⟨b,_⟩|⟨n,c,cur,b,d,e,o,hm,f,ht⟩⟩:=h
 ·simp at b
 ·simp only[Ar]at b
  obtain⟨he,_,rfl⟩:=b;cases he;rw[Zbs]at ht;have a:(l.take k).length=k:=by simp;omega
  refine⟨by simp,.inr ⟨g,cap,cur,by rw[a],d,e,by rw[a];omega,hm,f,?_⟩⟩;rw[a,Zbs,List.map_take,←ht,Zb5];congr 1;omega
theorem CF.off{S:Nat→Prop}(h:CF w base v l)(k:Cv S w w')(d:H4 S v):CF w' base v l:=by
 obtain⟨a,e|⟨g,cap,cur,b,f,c,r⟩⟩:=h
 ·exact⟨a,.inl e⟩
 ·exact⟨a,.inr ⟨g,cap,cur,b,f,(k.block g (Bi.1 c).1 (d g (by rw[b];rfl))).trans c,r⟩⟩
theorem CF.open(h:CF w base v l):(v=Y N 0 0∧l=[])∨ ∃g cap,v=Y (Z ⟨g,0,N⟩) l.length cap∧base≤g∧g<w.heap.size∧l.length≤cap∧ ∀i,i<l.length→w.cell? ⟨g,i,N⟩=Z (I U (l[i]?.getD 0)):=by
 have f:=Sl.Eh h;obtain⟨_,⟨rfl,j⟩|⟨g,cap,cur,rfl,k,m,c,n,o,p⟩⟩:=h
 ·exact .inl ⟨rfl,A3.1 j⟩
 ·refine .inr ⟨g,cap,rfl,k,(Bi.1 m).1,c,fun i d=>?_⟩
  obtain⟨a,e,he,_,q|⟨b,off,rfl,_,r⟩⟩:=f
  ·simp[q]at d
  ·simp only[Ar]at he
   obtain⟨he,_⟩:=he;cases he;have:=r i d;rwa [AO]at this
end
section
open Go.RowKit
section
variable {P:Program} {t:rA} (ht:P.underlying t=Z (.slice 3)) (DC:(P.info? 3).map (fun i=>(i.zero,i.size,i.bytes))=Z (Z (I U 0),1,8))
include ht DC
variable {ops:Array Oper} {Q:Exit→Act→oZ→Prop} {l:List Int}
def Ju(W:oZ)(base:Nat)(v:qY)(l m:List Int)(v':qY)(w':oZ):Prop:=CF w' base v' (l++m)∧W.grownBy w' v.ownBlock∧ ∀j,v'.ownBlock=Z j→v.ownBlock=Z j∨W.heap.size≤j
theorem Pu(base:Nat)(W:oZ)(ty:rA)(v:qY)(l:List Int)(u:qY)(m:List Int)(e:CF W base v l)(hu:DB W u m)(f:base≤W.heap.size)(hlen:l.length+m.length<100000000): ∃r w',(Builtin.append_ #[t,t] ty #[v,u]).run P W= .ok r w'∧Ju W base v l m r w':=by
 obtain⟨i0,K,D,A,E⟩:=info_parts DC;have i:W.ownsRow base 3 1 v l.length (l.map (I U)):=e;by_cases hm:u=Y N 0 0
 ·subst hm
  have:m=[]:=by obtain⟨a,cap,h,_⟩:=hu;simp only[Ar]at h;exact A3.1 h.2.1.symm
  subst this;refine⟨v,W,run_append_owned_none (P:=P) (w:=W) base t ty 3 i0 1 ht K v l.length _ i,by simpa using e,RF _ _,fun j h=>.inl h⟩
 ·obtain⟨s,c,rfl,d⟩: ∃s c,u=Y (Z s) m.length c∧ ∀(j:Nat)(x:qY),(m.map (I U))[j]?=Z x→W.cell? (s.add j)=Z x:=by
   rcases hu.open with⟨h,_⟩|⟨s,cap,rfl,rfl⟩|⟨b,off,cap,rfl,_,_,_,M⟩
   ·exact absurd h hm
   ·exact⟨s,cap,rfl,by simp⟩
   ·refine⟨_,cap,rfl,fun j x n=>?_⟩
    rw[Bn]at n;obtain⟨z,F,rfl⟩:=Ax.1 n;have B:j<m.length:=(Af.1 F).1;rw[Ay,M j B,F];rfl
  have y: ∀x∈m.map (I U),x.oneCell'=true:=by simp[Value.oneCell']
  rcases e.open with⟨rfl,rfl⟩|⟨g,cap,rfl,O,R,L,p⟩
  ·obtain⟨r,w',G,H,q,_⟩:=run_append_own (P:=P) W W.heap.size t ty 3 i0 (I U 0) 1 8 ht K D A E rfl (by decide) (Y N 0 0) 0 [] (AL W _ 3 1) s m.length c _ (by simp) d y (by unfold maxLen;omega) (by omega) (Al _)
   have o:CF w' W.heap.size r ([]++m):=by unfold CF;simpa using H
   exact⟨r,w',G,o.mono f,q,fun j n=>.inr (o.lt j n).1⟩
  ·by_cases C:l.length+m.length≤cap
   ·obtain⟨w',G,H,q⟩:=run_append_fits (P:=P) W base t ty 3 i0 1 ht K A g l.length cap _ i s m.length c _ (by simp) d y C
    exact⟨_,w',G,by unfold CF;simpa using H,q,fun j n=>.inl n⟩
   ·obtain⟨r,w',G,H,q⟩:=Cq (P:=P) W t ty 3 i0 (I U 0) 1 8 ht K D A E rfl (by decide) ⟨g,0,N⟩ l.length cap (l.map (I U)) (by simp) (fun j x n=>by rw[Bn]at n;obtain⟨z,F,rfl⟩:=Ax.1 n;have B:j<l.length:=(Af.1 F).1;rw[Ay,AO,p j B,F];rfl) s m.length c _ (by simp) d (by omega) (by unfold maxLen;omega) (by omega)
    have o:CF w' W.heap.size r (l++m):=by unfold CF;simpa using H
    exact⟨r,w',G,o.mono f,⟨q.os,q.tape,q.output,q.size,fun k Q _=>q.block k Q (by simp)⟩,fun j n=>.inr (o.lt j n).1⟩
theorem Jf(base:Nat)(W:oZ){rest:List Oper}{o:Oper}{a:Act}(e:o.guard=N)(s y:Operand)(f:o.op= .call {callee:=.builtin .append,args:=#[s,y],argTypes:=#[t,t]})(v:qY)(l:List Int)(u:qY)(m:List Int)(g:a.eval s=v)(hy:a.eval y=u)
  (c:CF W base v l) (hu:DB W u m) (b:base≤W.heap.size) (hlen:l.length+m.length<100000000)
  (h: ∀d w',Ju W base v l m d w'→wpList P ops Q rest (a.put o.dst d) w'):
  wpList P ops Q (o::rest) a W:=by
 refine wpList_plain e fun K i=>?_;obtain⟨d,w',j,k⟩:=Pu ht DC base W o.type v l u m c hu b hlen;unfold Oper.wp;simp[execOp,f,resolve,invoke,builtin,g,hy,j,Result.andThen];exact i _ _ (h d w' k)
theorem XJ(base:Nat)(W:oZ){o:Oper}{a:Act}{K:Act→oZ→Prop}{E:Prop}(e:o.guard=N)(s y:Operand)(f:o.op= .call {callee:=.builtin .append,args:=#[s,y],argTypes:=#[t,t]})(v:qY)(l:List Int)(u:qY)(m:List Int)(g:a.eval s=v)(hy:a.eval y=u)
  (c:CF W base v l) (hu:DB W u m) (b:base≤W.heap.size) (hlen:l.length+m.length<100000000)
  (h: ∀d w',Ju W base v l m d w'→K (a.put o.dst d) w'):
  if Region.wanted o (yielded ops a.tmps)=rq then Oper.wp P o a W K Q else E:=by
 have hw:Region.wanted o (yielded ops a.tmps)=true:=by simp[Region.wanted,e]
 rw[Ai hw];obtain⟨d,w',i,j⟩:=Pu ht DC base W o.type v l u m c hu b hlen;unfold Oper.wp;simp[execOp,f,resolve,invoke,builtin,g,hy,i,Result.andThen];exact h d w' j
end
theorem DB.Fc(w:oZ)(x:Int):DB (w.alloc (rD #[I U x] 3)) (Y (Z ⟨w.heap.size,0,N⟩) 1 1) [x]:=DB.new w [x] (by simp[maxLen])
theorem CF.alloc{w:oZ}{base:Nat}{v:qY}{l:List Int}(h:CF w base v l)(o:Obj):CF (w.alloc o) base v l:=h.below (Ct (rf _ _) o)
theorem CF.new{w:oZ}{l:List Int}(h:l.length≤maxLen):CF (w.alloc (rD (l.map (I U)).toArray 3)) w.heap.size (Y (Z ⟨w.heap.size,0,N⟩) l.length l.length) l:=⟨by simp,.inr ⟨w.heap.size,l.length,_,rfl,Al _,Cx.new w _ 3,Al _,h,by simp,by rw[Zbs];exact AU (by simp)⟩⟩
theorem Ju.some{W w':oZ}{base:Nat}{v v':qY}{l:List Int}{x:Int}(h:Ju W base v l [x] v' w'): ∃g cap,v'=Y (Z ⟨g,0,N⟩) (l.length+1) cap:=by
 rcases h.1.open with⟨_,a⟩|⟨g,cap,a,_⟩
 ·simp at a
 ·exact⟨g,cap,by rw[a];simp⟩
end
section
open Go.RowKit
variable {w w':oZ} {base Mi size n:Nat} {e:rA} {v:qY} {xs:List qY} {ops:Array Oper} {Q:Exit→Act→oZ→Prop}
def Dn(W:oZ)(base:Nat)(e:rA)(size:Nat)(v:qY)(n:Nat)(xs ys:List qY)(v':qY)(w':oZ):Prop:=w'.ownsRow base e size v' (n+1) (xs++ys)∧W.grownBy w' v.ownBlock∧ ∀j,v'.ownBlock=Z j→v.ownBlock=Z j∨W.heap.size≤j
theorem DZ(h:w.ownsRow base e size v n xs)(b:Mi≤base):w.ownsRow Mi e size v n xs:=by
 obtain⟨a,c|⟨g,cap,cur,d,f,i,r⟩⟩:=h
 ·exact⟨a,.inl c⟩
 ·exact⟨a,.inr ⟨g,cap,cur,d,AE b f,i,r⟩⟩
theorem Dd{S:Nat→Prop}(h:w.ownsRow base e size v n xs)(k:Cv S w w')(d:H4 S v):w'.ownsRow base e size v n xs:=by
 obtain⟨a,f|⟨g,cap,cur,b,i,c,r⟩⟩:=h
 ·exact⟨a,.inl f⟩
 ·exact⟨a,.inr ⟨g,cap,cur,b,i,(k.block g (Bi.1 c).1 (d g (by rw[b];rfl))).trans c,r⟩⟩
theorem CJ(h:w.ownsRow base e size v n xs)(a:qZ w.heap.size w w'):w'.ownsRow base e size v n xs:=Zbg h (EP a N) (by cases b:v.ownBlock<;>simp)
theorem Dr(h:w.ownsRow base e size v n xs):(v=Y N 0 0∧n=0)∨ ∃g cap,v=Y (Z ⟨g,0,N⟩) n cap∧base≤g∧g<w.heap.size∧n≤cap∧ ∀i,i<n*size→w.cell? ⟨g,i,N⟩=Z (xs[i]?.getD undef):=by
 obtain⟨l,d|⟨g,cap,cur,rfl,f,a,b,hm,j,ht⟩⟩:=h
 ·exact .inl d
 ·refine .inr ⟨g,cap,rfl,f,(Bi.1 a).1,b,fun i c=>?_⟩
  have k:Cx w g cur e:=a;rw[k.cell,←ht,AK c];have:i<cur.size:=by rw[j];exact Am c (Cs _ b)
  simp[this]
def Gz(w:oZ)(base:Nat)(e:rA)(size:Nat)(v:qY)(n:Nat)(xs:List qY):Prop:=w.ownsRow base e size v n xs∨ ∃g,v=Y (Z ⟨g,0,N⟩) n n∧base≤g∧g<w.heap.size∧xs.length=n*size∧ ∀i,i<n*size→w.cell? ⟨g,i,N⟩=Z (xs[i]?.getD undef)
theorem Gz.mono(h:Gz w base e size v n xs)(a:Mi≤base):Gz w Mi e size v n xs:=by
 rcases h with h|⟨g,b,c,d⟩
 ·exact .inl (DZ h a)
 ·exact .inr ⟨g,b,AE a c,d⟩
theorem Gz.off{S:Nat→Prop}(h:Gz w base e size v n xs)(k:Cv S w w')(a:H4 S v):Gz w' base e size v n xs:=by
 rcases h with h|⟨g,b,d,c,f,j⟩
 ·exact .inl (Dd h k a)
 ·exact .inr ⟨g,b,d,Am c k.size,f,fun i l=>(AH (k.block g c (a g (by rw[b];rfl)))).trans (j i l)⟩
theorem Gz.below(h:Gz w base e size v n xs)(a:qZ w.heap.size w w'):Gz w' base e size v n xs:=h.off (S:=fun _=>False) ((Cv.refl _ w).below a) (fun _ _ x=>x)
theorem Gz.len(h:Gz w base e size v n xs):xs.length=n*size:=by
 rcases h with h|⟨g,_,_,_,h,_⟩
 ·exact h.1
 ·exact h
theorem Gz.open(h:Gz w base e size v n xs):(v=Y N 0 0∧n=0)∨ ∃g cap,v=Y (Z ⟨g,0,N⟩) n cap∧base≤g∧g<w.heap.size∧n≤cap∧ ∀i,i<n*size→w.cell? ⟨g,i,N⟩=Z (xs[i]?.getD undef):=by
 rcases h with h|⟨g,a,b,c,f,d⟩
 ·exact Dr h
 ·exact .inr ⟨g,n,a,b,c,Al _,d⟩
theorem Gz.lt(h:Gz w base e size v n xs): ∀k,v.ownBlock=Z k→base≤k∧k<w.heap.size:=by
 intro k a;rcases h.open with⟨rfl,_⟩|⟨g,cap,rfl,b,c,_⟩
 ·cases a
 ·cases a;exact⟨b,c⟩
theorem Gz.cut{g cap:Nat}(h:Gz w base e size (Y (Z ⟨g,0,N⟩) n cap) n xs)(m:Nat)(hm:m≤n):Gz w base e size (Y (Z ⟨g,0,N⟩) m m) m (xs.take (m*size)):=by
 have l:=h.len;have c:m*size≤n*size:=Cs _ hm;rcases h.open with⟨a,_⟩|⟨o,b,a,d,f,p,j⟩
 ·cases a
 ·cases a
  refine .inr ⟨g,rfl,d,f,by rw[AN];omega,fun i k=>?_⟩;rw[j i (by omega),AK k]
section
variable {P:Program} {t:rA} {bytes:Nat} {z:qY} (ht:P.underlying t=Z (.slice e)) (DC:(P.info? e).map (fun i=>(i.zero,i.size,i.bytes))=Z (Z z,size,bytes)) (Xz:z.cells.size=size) (XA:0<size) (bU:bytes≤1000)
include ht DC Xz XA bU
theorem Pv(base:Nat)(W:oZ)(ty:rA)(v:qY)(n:Nat)(xs:List qY)(C:Addr)(c:Nat)(ys:List qY)(a:Gz W base e size v n xs)(o:ys.length=size)(b: ∀(j:Nat)(x:qY),ys[j]?=Z x→W.cell? (C.add j)=Z x) (q: ∀x∈ys,x.oneCell'=rq) (f:base≤W.heap.size) (hlen:n<100000000): ∃r w',(Builtin.append_ #[t,t] ty #[v,Y (Z C) 1 c]).run P W= .ok r w'∧Dn W base e size v n xs ys r w':=by
 obtain⟨i0,D,u,p,w⟩: ∃i,P.info? e=Z i∧i.zero=Z z∧i.size=size∧i.bytes=bytes:=by obtain⟨i,D,G⟩:=Ax.1 DC;simp only[AM]at G;exact⟨i,D,G.1,G.2.1,G.2.2⟩
 have s:(n+1)*bytes≤140737488355328:=by have:=Nat.mul_le_mul (show n+1≤100000000 by omega) bU;omega
 have E:n+1≤maxLen:=by unfold maxLen;omega
 rcases a with a|⟨g,rfl,H,M,F,d⟩;rotate_left
 ·obtain⟨r,w',y,m,h⟩:=Cq (P:=P) W t ty e i0 z size bytes ht D u p w Xz XA ⟨g,0,N⟩ n n xs F (fun j x l=>by
    have A:j<n*size:=by have:=(Af.1 l).1;rw[F]at this;exact this
    rw[Ay,AO,d j A,l];rfl) C 1 c ys (by simpa using o) b (by omega) E s
  exact⟨r,w',y,DZ m f,⟨h.os,h.tape,h.output,h.size,fun k K _=>h.block k K (by simp)⟩,fun j l=>.inr (Az m j l).1⟩
 rcases Dr a with⟨rfl,rfl⟩|⟨g,cap,rfl,H,M,L,d⟩
 ·have O:xs=[]:=by have:=a.1;simpa using this
  subst O;obtain⟨r,w',y,m,h,_⟩:=run_append_own (P:=P) W W.heap.size t ty e i0 z size bytes ht D u p w Xz XA (Y N 0 0) 0 [] (AL W _ e size) C 1 c ys (by simpa using o) b q (by omega) (by omega) (Al _);exact⟨r,w',y,DZ m f,h,fun j l=>.inr (Az m j l).1⟩
 ·by_cases B:n+1≤cap
  ·obtain⟨w',y,m,h⟩:=run_append_fits (P:=P) W base t ty e i0 size ht D p g n cap _ a C 1 c ys (by simpa using o) b q B
   exact⟨_,w',y,m,h,fun j l=>.inl l⟩
  ·obtain⟨r,w',y,m,h⟩:=Cq (P:=P) W t ty e i0 z size bytes ht D u p w Xz XA ⟨g,0,N⟩ n cap xs a.1 (fun j x l=>by
     have A:j<n*size:=by have:=(Af.1 l).1;rw[a.1]at this;exact this
     rw[Ay,AO,d j A,l];rfl) C 1 c ys (by simpa using o) b (by omega) E s
   exact⟨r,w',y,DZ m f,⟨h.os,h.tape,h.output,h.size,fun k K _=>h.block k K (by simp)⟩,fun j l=>.inr (Az m j l).1⟩
theorem Jg(base:Nat)(W:oZ){rest:List Oper}{o:Oper}{a:Act}(k:o.guard=N)(s y:Operand)(p:o.op= .call {callee:=.builtin .append,args:=#[s,y],argTypes:=#[t,t]})(v:qY)(n:Nat)(xs:List qY)(l:Addr)(c:Nat)(ys:List qY)(q:a.eval s=v)(hy:a.eval y=Y (Z l) 1 c)
  (f:Gz W base e size v n xs) (m:ys.length=size) (b: ∀(j:Nat)(x:qY),ys[j]?=Z x→W.cell? (l.add j)=Z x) (g: ∀x∈ys,x.oneCell'=rq) (d:base≤W.heap.size) (hlen:n<100000000)
  (h: ∀i w',Dn W base e size v n xs ys i w'→wpList P ops Q rest (a.put o.dst i) w'):
  wpList P ops Q (o::rest) a W:=by
 refine wpList_plain k fun K r=>?_;obtain⟨i,w',u,w⟩:=Pv ht DC Xz XA bU base W o.type v n xs l c ys f m b g d hlen;unfold Oper.wp;simp[execOp,p,resolve,invoke,builtin,q,hy,u,Result.andThen];exact r _ _ (h i w' w)
theorem J2(base:Nat)(W:oZ){o:Oper}{a:Act}{K:Act→oZ→Prop}{E:Prop}(k:o.guard=N)(s y:Operand)(p:o.op= .call {callee:=.builtin .append,args:=#[s,y],argTypes:=#[t,t]})(v:qY)(n:Nat)(xs:List qY)(l:Addr)(c:Nat)(ys:List qY)(q:a.eval s=v)(hy:a.eval y=Y (Z l) 1 c)
  (f:Gz W base e size v n xs) (m:ys.length=size) (b: ∀(j:Nat)(x:qY),ys[j]?=Z x→W.cell? (l.add j)=Z x) (g: ∀x∈ys,x.oneCell'=rq) (d:base≤W.heap.size) (hlen:n<100000000)
  (h: ∀i w',Dn W base e size v n xs ys i w'→K (a.put o.dst i) w'):
  if Region.wanted o (yielded ops a.tmps)=rq then Oper.wp P o a W K Q else E:=by
 have hw:Region.wanted o (yielded ops a.tmps)=true:=by simp[Region.wanted,k]
 rw[Ai hw];obtain⟨i,w',r,u⟩:=Pv ht DC Xz XA bU base W o.type v n xs l c ys f m b g d hlen;unfold Oper.wp;simp[execOp,p,resolve,invoke,builtin,q,hy,r,Result.andThen];exact h i w' u
end
theorem Dn.some{W:oZ}{v':qY}{ys:List qY}(h:Dn W base e size v n xs ys v' w'): ∃g cap,v'=Y (Z ⟨g,0,N⟩) (n+1) cap:=by
 rcases Dr h.1 with⟨_,a⟩|⟨g,cap,a,_⟩
 ·simp at a
 ·exact⟨g,cap,a⟩
end
section
variable {P:Program} {l n:Nat}
end
variable {P:Program} {ops:Array Oper} {Q:Exit→Act→oZ→Prop} {md:Region.Mode}
variable {listed:Array Bool}
theorem Ry(i:Nat){oi:Oper}{v:qY}{fuel:Nat}{a:Act}{w:oZ}(d:ops[i]?=Z oi)(b:(Region.noSelect ops&&(Region.free md ops listed i&&((Region.ready md ops listed).contains i&&Region.wanted oi (yielded ops a.tmps))))=rq)(e: ∀c a w,Q (.panic c) (a.put oi.dst v) w→Q (.panic c) a w) (hy: ∀w,(execOp a.eval oi).run P w= .ok (.value v) w) (h:wpAny P md ops Q fuel (listed.setIfInBounds i rq) (a.put oi.dst v) w):wpAny P md ops Q (fuel+1) listed a w:=by simp only[AP]at b;exact Zb6 d b.1 b.2.1 b.2.2.1 e (.inl ⟨b.2.2.2,hy⟩) h
theorem bV(i:Nat){o:Oper}{fuel:Nat}{a:Act}{w:oZ}(c:Region.ready md ops listed=[i])(d:ops[i]?=Z o)(h: ∀b:Act→oZ→Prop,(∀a w,wpAny P md ops Q fuel (listed.setIfInBounds i rq) a w→b a w)→if Region.wanted o (yielded ops a.tmps)=rq then Oper.wp P o a w b Q else b (a.put o.dst undef) w):wpAny P md ops Q (fuel+1) listed a w:=BQ c (by simp) (Zar d h Zb1)
end Go.CL
namespace Go.Proofs.YtgadhchejmlfjaaGreatDoor.F2
open Go.Proofs.Tryz
open Go.Shelf Go.Proofs Go.RowKit Go.CL
def Lk:Go.Shelf.Ren:=⟨fun|156=>80|165=>141|166=>70|169=>72|240=>129|241=>213|276=>203|277=>278|n=>n,fun|31=>170|9=>9|3=>3|4=>4|0=>0|20=>20|72=>152|76=>155|70=>149|37=>150|75=>154|127=>239|164=>288|5=>5|80=>158|n=>n,fun|n=>n⟩
theorem J3:Go.Proofs.Lays.n156 prog Lk:={mixed:=by kernel_rfl,f156:=func80.trans (Aq Z (by kernel_rfl)),f165:=func141.trans (Aq Z (by kernel_rfl)),f166:=func70.trans (Aq Z (by kernel_rfl)),f169:=func72.trans (Aq Z (by kernel_rfl)),f240:=func129.trans (Aq Z (by kernel_rfl)),f241:=func213.trans (Aq Z (by kernel_rfl)),f276:=func203.trans (Aq Z (by kernel_rfl)),f277:=func278.trans (Aq Z (by kernel_rfl)),t0:=underlying0,a0:=isAgg0,z0:=sizeOf0,v0:=zeroValue0,t3:=underlying3,a3:=isAgg3,z3:=sizeOf3,v3:=zeroValue3,t4:=underlying4,a4:=isAgg4,z4:=sizeOf4,v4:=zeroValue4,t9:=underlying9,a9:=isAgg9,z9:=sizeOf9,v9:=zeroValue9,t20:=underlying20,a20:=isAgg20,z20:=sizeOf20,v20:=zeroValue20,t31:=underlying170,a31:=isAgg170,z31:=sizeOf170,v31:=zeroValue170,t37:=underlying150,a37:=isAgg150,z37:=sizeOf150,v37:=zeroValue150,t70:=underlying149,a70:=isAgg149,z70:=sizeOf149,v70:=zeroValue149,t72:=underlying152,a72:=isAgg152,z72:=sizeOf152,v72:=zeroValue152,t75:=underlying154,a75:=isAgg154,z75:=sizeOf154,v75:=zeroValue154,t76:=underlying155,a76:=isAgg155,z76:=sizeOf155,v76:=zeroValue155,t127:=underlying239,a127:=isAgg239,z127:=sizeOf239,v127:=zeroValue239,t164:=underlying288,a164:=isAgg288,z164:=sizeOf288,v164:=zeroValue288}
theorem DS:Builder.Extra prog Lk:={sizeBuilder:=by kernel_rfl,liesBuilder:=by kernel_rfl,t5:=underlying5,a5:=isAgg5,z5:=sizeOf5,v5:=zeroValue5,infoByte:=by kernel_rfl,cellsByte:=by kernel_rfl,sizeByte:=by kernel_rfl,neB5:=by decide}
def Pw:Go.Shelf.Ren:=⟨fun|103=>355|210=>370|206=>376|n=>n,fun|9=>9|4=>4|24=>421|3=>3|n=>n,fun|n=>n⟩
theorem cC:Go.Proofs.Lays.n103 prog Pw:={mixed:=by kernel_rfl,f103:=func355.trans (Aq Z (by kernel_rfl)),f206:=func376.trans (Aq Z (by kernel_rfl)),f210:=func370.trans (Aq Z (by kernel_rfl)),t3:=underlying3,a3:=isAgg3,z3:=sizeOf3,v3:=zeroValue3,t4:=underlying4,a4:=isAgg4,z4:=sizeOf4,v4:=zeroValue4,t9:=underlying9,a9:=isAgg9,z9:=sizeOf9,v9:=zeroValue9,t24:=underlying421,a24:=isAgg421,z24:=sizeOf421,v24:=zeroValue421}
def Og:Go.Shelf.Ren:=⟨fun|171=>134|243=>204|246=>206|283=>267|284=>268|285=>269|286=>270|129=>317|317=>316|318=>318|319=>319|320=>320|337=>351|338=>352|n=>n,fun|3=>3|9=>9|2=>2|4=>4|171=>327|0=>0|53=>328|37=>150|5=>5|173=>331|212=>384|51=>217|20=>20|213=>385|46=>386|232=>425|233=>426|n=>n,fun|17=>2|18=>4|19=>5|n=>n⟩
theorem XK:Go.Proofs.LaysM.n171 prog Og:={mixed:=by kernel_rfl,f129:=func317.trans (Aq Z (by kernel_rfl)),f171:=func134.trans (Aq Z (by kernel_rfl)),f243:=func204.trans (Aq Z (by kernel_rfl)),f246:=func206.trans (Aq Z (by kernel_rfl)),f283:=func267.trans (Aq Z (by kernel_rfl)),f284:=func268.trans (Aq Z (by kernel_rfl)),f285:=func269.trans (Aq Z (by kernel_rfl)),f286:=func270.trans (Aq Z (by kernel_rfl)),f317:=func316.trans (Aq Z (by kernel_rfl)),f318:=func318.trans (Aq Z (by kernel_rfl)),f319:=func319.trans (Aq Z (by kernel_rfl)),f320:=func320.trans (Aq Z (by kernel_rfl)),f337:=func351.trans (Aq Z (by kernel_rfl)),f338:=func352.trans (Aq Z (by kernel_rfl)),t0:=underlying0,a0:=isAgg0,z0:=sizeOf0,v0:=zeroValue0,t2:=underlying2,a2:=isAgg2,z2:=sizeOf2,v2:=zeroValue2,t3:=underlying3,a3:=isAgg3,z3:=sizeOf3,v3:=zeroValue3,t4:=underlying4,a4:=isAgg4,z4:=sizeOf4,v4:=zeroValue4,t5:=underlying5,a5:=isAgg5,z5:=sizeOf5,v5:=zeroValue5,t9:=underlying9,a9:=isAgg9,z9:=sizeOf9,v9:=zeroValue9,t20:=underlying20,a20:=isAgg20,z20:=sizeOf20,v20:=zeroValue20,t37:=underlying150,a37:=isAgg150,z37:=sizeOf150,v37:=zeroValue150,t46:=underlying386,a46:=isAgg386,z46:=sizeOf386,v46:=zeroValue386,t51:=underlying217,a51:=isAgg217,z51:=sizeOf217,v51:=zeroValue217,t53:=underlying328,a53:=isAgg328,z53:=sizeOf328,v53:=zeroValue328,t171:=underlying327,a171:=isAgg327,z171:=sizeOf327,v171:=zeroValue327,t173:=underlying331,a173:=isAgg331,z173:=sizeOf331,v173:=zeroValue331,t212:=underlying384,a212:=isAgg384,z212:=sizeOf384,v212:=zeroValue384,t213:=underlying385,a213:=isAgg385,z213:=sizeOf385,t232:=underlying425,a232:=isAgg425,z232:=sizeOf425,v232:=zeroValue425,t233:=underlying426,a233:=isAgg426,z233:=sizeOf426,v233:=zeroValue426,g17:=by kernel_rfl,g18:=by kernel_rfl,g19:=by kernel_rfl,i0:=by kernel_rfl,i2:=by kernel_rfl,i3:=by kernel_rfl,i4:=by kernel_rfl,i5:=by kernel_rfl,i9:=by kernel_rfl,i20:=by kernel_rfl,i37:=by kernel_rfl,i46:=by kernel_rfl,i51:=by kernel_rfl,i53:=by kernel_rfl,i171:=by kernel_rfl,i173:=by kernel_rfl,i212:=by kernel_rfl,i232:=by kernel_rfl,i233:=by kernel_rfl,m17:=by kernel_rfl,m18:=by kernel_rfl,m19:=by kernel_rfl}
def Px:Go.Shelf.Ren:=⟨fun|173=>136|246=>206|283=>267|284=>268|285=>269|286=>270|129=>317|317=>316|318=>318|319=>319|320=>320|337=>351|338=>352|n=>n,fun|2=>2|3=>3|9=>9|4=>4|171=>327|0=>0|53=>328|37=>150|5=>5|173=>331|212=>384|51=>217|20=>20|213=>385|46=>386|232=>425|233=>426|n=>n,fun|17=>2|18=>4|19=>5|n=>n⟩
theorem cD:Go.Proofs.Lays.n173 prog Px:={mixed:=by kernel_rfl,f129:=func317.trans (Aq Z (by kernel_rfl)),f173:=func136.trans (Aq Z (by kernel_rfl)),f246:=func206.trans (Aq Z (by kernel_rfl)),f283:=func267.trans (Aq Z (by kernel_rfl)),f284:=func268.trans (Aq Z (by kernel_rfl)),f285:=func269.trans (Aq Z (by kernel_rfl)),f286:=func270.trans (Aq Z (by kernel_rfl)),f317:=func316.trans (Aq Z (by kernel_rfl)),f318:=func318.trans (Aq Z (by kernel_rfl)),f319:=func319.trans (Aq Z (by kernel_rfl)),f320:=func320.trans (Aq Z (by kernel_rfl)),f337:=func351.trans (Aq Z (by kernel_rfl)),f338:=func352.trans (Aq Z (by kernel_rfl)),t0:=underlying0,a0:=isAgg0,z0:=sizeOf0,v0:=zeroValue0,t2:=underlying2,a2:=isAgg2,z2:=sizeOf2,v2:=zeroValue2,t3:=underlying3,a3:=isAgg3,z3:=sizeOf3,v3:=zeroValue3,t4:=underlying4,a4:=isAgg4,z4:=sizeOf4,v4:=zeroValue4,t5:=underlying5,a5:=isAgg5,z5:=sizeOf5,v5:=zeroValue5,t9:=underlying9,a9:=isAgg9,z9:=sizeOf9,v9:=zeroValue9,t20:=underlying20,a20:=isAgg20,z20:=sizeOf20,v20:=zeroValue20,t37:=underlying150,a37:=isAgg150,z37:=sizeOf150,v37:=zeroValue150,t46:=underlying386,a46:=isAgg386,z46:=sizeOf386,v46:=zeroValue386,t51:=underlying217,a51:=isAgg217,z51:=sizeOf217,v51:=zeroValue217,t53:=underlying328,a53:=isAgg328,z53:=sizeOf328,v53:=zeroValue328,t171:=underlying327,a171:=isAgg327,z171:=sizeOf327,v171:=zeroValue327,t173:=underlying331,a173:=isAgg331,z173:=sizeOf331,v173:=zeroValue331,t212:=underlying384,a212:=isAgg384,z212:=sizeOf384,v212:=zeroValue384,t213:=underlying385,a213:=isAgg385,z213:=sizeOf385,t232:=underlying425,a232:=isAgg425,z232:=sizeOf425,v232:=zeroValue425,t233:=underlying426,a233:=isAgg426,z233:=sizeOf426,v233:=zeroValue426,g17:=by kernel_rfl,g18:=by kernel_rfl,g19:=by kernel_rfl}
def Ll:Go.Shelf.Ren:=⟨fun|145=>271|220=>321|219=>353|217=>363|225=>364|224=>365|267=>366|266=>371|314=>372|n=>n,fun|9=>9|4=>4|59=>333|3=>3|5=>5|46=>386|146=>429|51=>217|n=>n,fun|1=>3|n=>n⟩
theorem cE:Go.Proofs.Lays.n145 prog Ll:={mixed:=by kernel_rfl,f145:=func271.trans (Aq Z (by kernel_rfl)),f217:=func363.trans (Aq Z (by kernel_rfl)),f219:=func353.trans (Aq Z (by kernel_rfl)),f220:=func321.trans (Aq Z (by kernel_rfl)),f224:=func365.trans (Aq Z (by kernel_rfl)),f225:=func364.trans (Aq Z (by kernel_rfl)),f266:=func371.trans (Aq Z (by kernel_rfl)),f267:=func366.trans (Aq Z (by kernel_rfl)),f314:=func372.trans (Aq Z (by kernel_rfl)),t3:=underlying3,a3:=isAgg3,z3:=sizeOf3,v3:=zeroValue3,t4:=underlying4,a4:=isAgg4,z4:=sizeOf4,v4:=zeroValue4,t5:=underlying5,a5:=isAgg5,z5:=sizeOf5,v5:=zeroValue5,t9:=underlying9,a9:=isAgg9,z9:=sizeOf9,v9:=zeroValue9,t46:=underlying386,a46:=isAgg386,z46:=sizeOf386,v46:=zeroValue386,t51:=underlying217,a51:=isAgg217,z51:=sizeOf217,v51:=zeroValue217,t59:=underlying333,a59:=isAgg333,z59:=sizeOf333,v59:=zeroValue333,t146:=underlying429,a146:=isAgg429,z146:=sizeOf429,v146:=zeroValue429,g1:=by kernel_rfl}
def Lm:Go.Shelf.Ren:=⟨fun|146=>322|221=>354|268=>367|138=>368|143=>369|195=>373|197=>374|218=>375|219=>353|260=>377|217=>363|225=>364|224=>365|267=>366|266=>371|314=>372|n=>n,fun|9=>9|31=>170|3=>3|4=>4|0=>0|105=>432|21=>21|5=>5|46=>386|119=>435|139=>438|138=>437|146=>429|51=>217|n=>n,fun|1=>3|3=>6|4=>7|n=>n⟩
theorem cG:Go.Proofs.Lays.n146 prog Lm:={mixed:=by kernel_rfl,f138:=func368.trans (Aq Z (by kernel_rfl)),f143:=func369.trans (Aq Z (by kernel_rfl)),f146:=func322.trans (Aq Z (by kernel_rfl)),f195:=func373.trans (Aq Z (by kernel_rfl)),f197:=func374.trans (Aq Z (by kernel_rfl)),f217:=func363.trans (Aq Z (by kernel_rfl)),f218:=func375.trans (Aq Z (by kernel_rfl)),f219:=func353.trans (Aq Z (by kernel_rfl)),f221:=func354.trans (Aq Z (by kernel_rfl)),f224:=func365.trans (Aq Z (by kernel_rfl)),f225:=func364.trans (Aq Z (by kernel_rfl)),f260:=func377.trans (Aq Z (by kernel_rfl)),f266:=func371.trans (Aq Z (by kernel_rfl)),f267:=func366.trans (Aq Z (by kernel_rfl)),f268:=func367.trans (Aq Z (by kernel_rfl)),f314:=func372.trans (Aq Z (by kernel_rfl)),t0:=underlying0,a0:=isAgg0,z0:=sizeOf0,v0:=zeroValue0,t3:=underlying3,a3:=isAgg3,z3:=sizeOf3,v3:=zeroValue3,t4:=underlying4,a4:=isAgg4,z4:=sizeOf4,v4:=zeroValue4,t5:=underlying5,a5:=isAgg5,z5:=sizeOf5,v5:=zeroValue5,t9:=underlying9,a9:=isAgg9,z9:=sizeOf9,v9:=zeroValue9,t21:=underlying21,a21:=isAgg21,z21:=sizeOf21,v21:=zeroValue21,t31:=underlying170,a31:=isAgg170,z31:=sizeOf170,v31:=zeroValue170,t46:=underlying386,a46:=isAgg386,z46:=sizeOf386,v46:=zeroValue386,t51:=underlying217,a51:=isAgg217,z51:=sizeOf217,v51:=zeroValue217,t105:=underlying432,a105:=isAgg432,z105:=sizeOf432,v105:=zeroValue432,t119:=underlying435,a119:=isAgg435,z119:=sizeOf435,t138:=underlying437,a138:=isAgg437,z138:=sizeOf437,v138:=zeroValue437,t139:=underlying438,a139:=isAgg438,z139:=sizeOf438,v139:=zeroValue438,t146:=underlying429,a146:=isAgg429,z146:=sizeOf429,v146:=zeroValue429,g1:=by kernel_rfl,g3:=by kernel_rfl,g4:=by kernel_rfl}
theorem kL(B b:Nat)(a:List qY)(s:ByteArray)(w:oZ)(h:Lib.IsBuilder 152 5 B b a w)(hlen:a.length+s.size≤140737488355328)(c:B≤w.heap.size):re prog 70 #[J (Z ⟨b,0,N⟩),rF s] w fun e d=>e=rC (rG #[I U s.size,.nilIface])∧(Lib.BuilderAt 152 5 B b (J (Z ⟨b,0,N⟩)) (a++Lib.strCells s) d∧qZ B w d):=Any.Builder_WriteString {J3 with} DS B b a s w h hlen c
theorem kM(B b:Nat)(l:List UInt8)(w:oZ)(h:Lib.IsBuilder 152 5 B b (Lib.byteCells l) w)(a:B≤w.heap.size):re prog 72 #[J (Z ⟨b,0,N⟩)] w fun e c=>e=rC (rF ⟨l.toArray⟩)∧qZ B w c:=Any.Builder_String_any {J3 with} DS B b l w h a
theorem join(d o c:Nat)(xs:List ByteArray)(sep:ByteArray)(w:oZ)(a: ∀(j:Nat) x,xs[j]?=Z x→w.cell? ⟨d,o+j,N⟩=Z (rF x)) (f:d<w.heap.size) (g:xs.length≤140737488355328) (b:xs.length≤c) (hlen:(Lib.join (xs.map (·.data.toList)) sep.data.toList).length≤140737488355328):re prog 80 #[Y (Z ⟨d,o,N⟩) xs.length c,rF sep] w fun e h=>e=rC (rF ⟨(Lib.join (xs.map (·.data.toList)) sep.data.toList).toArray⟩)∧qZ w.heap.size w h:=Any.strings_Join J3 DS d o c xs sep w a f g b hlen
theorem nI(s p:ByteArray)(w:oZ):re prog 355 #[rF s,rF p] w fun e a=>e=rC (rG #[rF ⟨(Lib.trimPrefix s.data.toList p.data.toList).toArray⟩,ry (Lib.hasPrefix s.data.toList p.data.toList)])∧a=w:=Any.strings_CutPrefix cC s p w
theorem XL(w:oZ)(k:Nat)(os:Array Obj):qZ w.heap.size w (Go.Sort.grow (w.drewN k) os):=⟨rfl,rfl,rfl,by simp[Go.Sort.grow,World.drewN],fun j a=>by show(w.heap++os)[j]?=_;rw[Array.getElem?_append,Ai a]⟩
def Pow(w:oZ):Prop:=Lib.TabIs prog w "internal/strconv.uint64pow10" .u64 Lib.pow10Tab
theorem itoa(n:Int)(b: -9223372036854775808≤n)(c:n≤9223372036854775807)(w:oZ)(h:Pow w):re prog 134 #[I U n] w fun e a=>e=rC (rF ⟨(Lib.itoa n).toArray⟩)∧qZ w.heap.size w a:=by refine(Any.strconv_Itoa XK n b c w h).mono ?_;rintro e a⟨rfl,k,os,rfl⟩;exact⟨rfl,XL w k os⟩
theorem kN(i:Nat)(a:i<100)(w:oZ):re prog 136 #[I U i,I U 10] w fun e b=>e=rC (rF ⟨(Lib.decDigits i).toArray⟩)∧b=w:=Any.strconv_FormatInt_10_small cD i a w
theorem cut(s sep:ByteArray)(m:Int)(w:oZ)(a:s.size<4294967281)(hm:w.cell? ⟨Ll.g 1,0,N⟩=Z (I U m)):re prog 271 #[rF s,rF sep] w fun e b=>e=rC (rG #[rF ⟨(Lib.cut s.data.toList sep.data.toList).1.toArray⟩,rF ⟨(Lib.cut s.data.toList sep.data.toList).2.1.toArray⟩,ry (Lib.cut s.data.toList sep.data.toList).2.2])∧ ∃n,b=w.drewN n:=Any.strings_Cut cE s sep m w a hm
theorem split(s sep:ByteArray)(m:Int)(w:oZ)(a:s.size<4294967281)(hm:w.cell? ⟨Lm.g 1,0,N⟩=Z (I U m))(b:1≤sep.size):re prog 322 #[rF s,rF sep] w fun e c=>e=rC (Y (Z ⟨w.heap.size,0,N⟩) (Lib.countB s sep+1) (Lib.countB s sep+1))∧c=w.alloc (rD ((Lib.splitB sep 0 (Lib.countB s sep) s).map Value.string).toArray 9):=Any.strings_Split cG (by kernel_rfl) s sep m w a hm b
end Go.Proofs.YtgadhchejmlfjaaGreatDoor.F2
namespace Go.Proofs.YtgadhchejmlfjaaGreatDoor.FM
open Go.Proofs.Tryz Go.RowKit Go.CL
theorem Ln(l:List UInt8)(h:Hz l=rq):l≠[]∧l.length≤15∧(∀c∈l,48≤c.toNat∧c.toNat≤57)∧(l=[48]∨l.head?≠Z 48):=by unfold Hz at h;simp only[AP,Bc,Zap,Be,Bool.or_eq_true,Za2,bne_iff_ne]at h;obtain⟨⟨⟨a,b⟩,d⟩,f⟩:=h;exact⟨fun e=>(by rw[e]at a;cases a),b,d,f⟩
theorem XM(l:List UInt8)(h:Hz l=rq):Lib.trimPrefix l [45]=l∧Lib.hasPrefix l [45]=false:=by
 obtain⟨a,_,b,_⟩:=Ln l h;cases l with
 |nil=>exact absurd rfl a
 |cons c l=>
  have d:(45==c)=false:=by have:=b c (by simp);rw[Au];intro e;rw[←e]at this;exact absurd this.1 (by decide)
  have:Lib.hasPrefix (c::l) [45]=false:=by simp[Lib.hasPrefix,List.isPrefixOf,d]
  refine⟨?_,this⟩;simp[Lib.trimPrefix,this]
theorem byte_at(l:List UInt8)(k:Nat)(h:k<l.length):((⟨l.toArray⟩:ByteArray)[k]'(by show k<l.toArray.size;simpa using h))=l[k]:=by show l.toArray[k]'_=_;simp
theorem RI(w:oZ)(l:List UInt8)(cap:Nat)(t:rA)(fr:Nat×Nat)(k:Nat)(h:k<l.length):(w.alloc (rD (bytesRow ⟨l.toArray⟩ cap) t fr)).cell? ⟨w.heap.size,k,N⟩=Z (.int .u8 (l[k]).toNat):=by
 have:(w.alloc (rD (bytesRow ⟨l.toArray⟩ cap) t fr)).heap[w.heap.size]?=Z (rD (bytesRow ⟨l.toArray⟩ cap) t fr):=by show(w.heap.push _)[w.heap.size]?=_;simp
 simp only[World.cell?,this];simp[bytesRow,Array.getElem?_append,h]
theorem Fe(l:List UInt8)(w:oZ)(h:Hz l=rq):re prog 326 #[rF ⟨l.toArray⟩] w fun e s=>e=rC (rG #[I U (GV l),ry rq])∧qZ w.heap.size w s:=by
 obtain⟨m,u,o,d⟩:=Ln l h;obtain⟨m1,m2⟩:=XM l h;have C:Hid (re prog 355 #[rF ⟨l.toArray⟩,rF ⟨#[45]⟩] w fun e s=>e=rC (rG #[rF ⟨l.toArray⟩,ry rm])∧s=w):=by have:=F2.nI ⟨l.toArray⟩ ⟨#[45]⟩ w;rw[show(⟨#[45]⟩:ByteArray).data.toList=[45]from rfl,show(⟨l.toArray⟩:ByteArray).data.toList=l by simp,m1,m2]at this;exact this
 have hcv:=fun(w:oZ)=>run_bytes_of_string w 9 150 5 ⟨l.toArray⟩ underlying9 underlying150 underlying5;have D:l.isEmpty=false:=by cases l;exact absurd rfl m;rfl
 have a:0<l.length:=Ci.2 m;have E:Hid (∀k(f:k<l.length),(48≤l[k].toNat∧l[k].toNat≤57)∧GV (l.take (k+1))=GV (l.take k)*10+(l[k].toNat-48)∧GV (l.take k)<100000000000000):=fun k f=>by refine⟨o _ (BI f),Ns l k f,?_⟩;have y:=Oe l o k (by omega);have v:10^k≤10^14:=Nat.pow_le_pow_right (by decide) (by omega);omega
 have F:Hid (GV l<1000000000000000):=by have y:=Oe l o l.length (Al _);rw[BJ]at y;have v:10^l.length≤10^15:=Nat.pow_le_pow_right (by decide) u;show GV l<1000000000000000;omega
 have g:((⟨l.toArray⟩:ByteArray)[0]'(by show 0<l.toArray.size;simpa using a))=l[0]:=byte_at l 0 a;have x:=Aa u;have z:Hid (((l== [48])=rq∧((((⟨l.toArray⟩:ByteArray)[0]'(by show 0<l.toArray.size;simpa using a)).toNat:Nat):Int)=48)∨((l== [48])=rm∧ ¬((((⟨l.toArray⟩:ByteArray)[0]'(by show 0<l.toArray.size;simpa using a)).toNat:Nat):Int)=48)):=by
  rw[g];rcases d with rfl|d
  ·exact .inl ⟨rfl,rfl⟩
  ·right
   cases l with
   |nil=>exact absurd rfl m
   |cons c t=>
    simp only[List.head?_cons,ne_eq,Ak]at d;refine⟨by simp[d],fun e=>d ?_⟩;have v:c.toNat=48:=by have e':((c.toNat:Nat):Int)=48:=e;omega
    exact UInt8.toNat_inj.1 v
 clear d o u m1 m2 h g m;go_enter func326,ntmps326;rcases z.out with⟨A,B⟩|⟨A,B⟩
 all_goals
  go_wp2_with(go_at_call 355;refine C.out.mono ?_;rintro e p⟨rfl,rfl⟩);clear A B D hcv z;go_loopw [2,28] (fun t2 t28 wr=> ∃k:Nat,k≤l.length∧t28=I U k∧t2=I U (-(GV (l.take k):Int))∧qZ p.heap.size p wr∧ ∀(j:Nat)(h:j<l.length),wr.cell? ⟨p.heap.size,j,N⟩=Z (.int .u8 (l[j]).toNat)) (fun _ t _=>l.length-(intOf t).toNat)
  case atStart=>exact⟨0,Ap _,rfl,rfl,(Ct (rf _ _) _).drew,fun j G=>RI p l _ _ _ j G⟩
  case round=>
   obtain⟨k,f,rfl,rfl,q,r⟩:=hrel;by_cases b:k<l.length
   ·have L:(k:Int)<(l.length:Int):=by omega
    have c0:=r k b;obtain⟨⟨M,a2⟩,a3,a4⟩:=E.out k b;have i:=Aa (Ab q (Ab r a3));generalize(l[k]).toNat=c at*
    generalize GV (l.take k)=n at*
    clear q r a3;go_wp2;have H:=x.out;have hw:wrap64 ((k:Int)+1)=((k+1:Nat):Int):=by unfold wrap64;omega
    rw[hw];refine⟨⟨k+1,by omega,rfl,?_,i.out.1,i.out.2.1⟩,by simp[intOf];omega⟩;rw[i.out.2.2];congr 1;omega
   ·obtain rfl:k=l.length:=by omega
    have O:=F.out;rw[BJ];have i:=Aa q;have K:(-(GV l:Int)== -9223372036854775808)=false:=by simp;omega
    clear q r b f;go_wp2;go_ret2;exact⟨by simp,i.out⟩
end Go.Proofs.YtgadhchejmlfjaaGreatDoor.FM
