/- The Go function TopReaches returns true whatever the draws are, and leaves them as they were. Conditions: the package variables that the row lists hold what the program's text lays (tied: the card). -/
import Derived.Test.YtgadhchejmlfjaaGreatDoorTie
import Derived.Test.YtgadhchejmlfjaaGreatDoorCards
import Derived.WalkKit
import Derived.ProofKit
import Derived.OpenShut
import Derived.ShutString
import Derived.ChangeOld
import Derived.Below
import Derived.LaidLaws
import Derived.LaidHandle
import Derived.Lay
import Derived.Lib.LaidTab
import Derived.Lib.LaidU8
import Derived.Shelf.Vars
import Derived.SevenTiedAt
import Derived.JoinedOf
import Derived.Stop.Joined
import Derived.Test.YtgadhchejmlfjaaGreatDoorRch
set_option linter.unusedVariables false
set_option maxRecDepth 20000
namespace Go.Proofs.YtgadhchejmlfjaaGreatDoor.topReaches
open Go.ChangeShapes Go.WideShapes Go.ChangeAt Go.RowKit Go.Esc
set_option maxRecDepth 100000
theorem returns_shaped {H:Type} {enc:TypeId × Value → H} {a:Assume} {C:Checked} {os:Os} {f:FuncId} {fn:Func} {s:ChangeSpec} {conds:List PathCond} {apart fresh handsOn again:Bool} {X:World → Array Value → Prop}
  (hX:∀ (w w':World) (args:Array Value),w.heap = w'.heap → X w args → X w' args) (own:ownKnob C.prog.godebug = none) (started:os.Started) (noInit:C.prog.inits.idxOf? f = none) (hfn:C.prog.funcs[f]? = some fn)
  (witness:∃ (w:World) (tape:Tape) (i:Input),w.os = os ∧ (w.forCall tape i).Shaped C.prog ∧ i.vars = [] ∧ Input.okWide C.prog (w.forCall tape i) .any w.heap.size f i ∧
   ((s.pre enc C.prog fn conds apart (w.forCall tape i).memory i.args ∧ X (w.forCall tape i).memory i.args) ∧ sizedMet enc C.prog fn (OpenSpec.ofChange s) apart (w.forCall tape i).memory i.args) ∧ a.holds C.prog (lone (Frame.enter C.prog f i.args .normal) [] (w.forCall tape i)))
  (contract:∀ (W:World) (base:Nat) (args:Array Value) (ds gs:List (DataW H)) (before:List MemPlace),
   (∀ (j:Nat) t v,fn.params[j]? = some t → args[j]? = some v → Value.okWide C.prog W .any base t v) → DataW.Whole enc C.prog fn.params.toList s.vars apart W args.toList ds gs before → X W args → W.ShapedOpen C.prog →
   Calls C.prog f args W fun e W'=>∃ v,e = .returned v ∧ s.post enc C.prog fn apart fresh handsOn again W args v W') :
  ReturnsInHanded a C os f .any (fun w args=>(s.pre enc C.prog fn conds apart w args ∧ X w args) ∧ sizedMet enc C.prog fn (OpenSpec.ofChange s) apart w args) (s.post enc C.prog fn apart fresh handsOn again):=by
 refine returnsInHanded_of_calls own started noInit witness ?_
 intro w tape i _ hsh _ hok hpre hholds
 obtain ⟨_,_,_,fn',hfn',_,_,_,_,hval⟩:=hok
 have e:fn' = fn:=Option.some.inj (hfn'.symm.trans hfn)
 subst e
 obtain ⟨⟨⟨ds,gs,before,hw,hc⟩,hx⟩,hz⟩:=hpre
 have hw':=DataW.Whole.of_heap (w':=w.forCall tape i) (by rfl) hw
 refine (contract (w.forCall tape i) w.heap.size i.args ds gs before hval hw' (hX _ _ _ (by rfl) hx) hsh).mono fun e W' ⟨v,he,hp⟩=>?_
 subst he
 exact ChangeSpec.post_blind hp
theorem own:ownKnob Tryz.prog.godebug = none:=by kernel_rfl
theorem laidOut:laidOutB Tryz.prog = true:=by kernel_rfl
def rowD (r:Isa.Row):DataW Unit:=.agg [.lit (.string r.name),.lit (.int .i64 r.regs),.lit (.int .i64 r.target),.lit (.bool r.number),.lit (.bool r.waits),.lit (.bool r.ends),.lit (.bool r.asks)]
theorem rows_data:(Rows.laid_escapement_isa_rows:DataW Unit) = .agg (Isa.rows.map rowD):=by rfl
theorem one_at {cs:List Value} {k:Nat} {v:Value} (h:(cs.drop k).take 1 = [v]):cs[k]? = some v:=by
 have:=congrArg (·[0]?) h
 simpa [List.getElem?_take,List.getElem?_drop] using this
theorem drop_one {cs:List Value} {a b:Nat} {v:Value} (h:((((cs.drop a).take 7).drop b).take 1) = [v]):cs[a + b]? = some v:=by
 have:=congrArg (·[0]?) h
 simp only [List.getElem?_take,List.getElem?_drop,List.getElem?_cons_zero] at this
 split at this
 · split at this
   · simpa using this
   · cases this
 · cases this
theorem lit_str {W:World} {fuel:Nat} {cs:List Value} {s:List UInt8} {p:List MemPlace} (h:DataW.trod (fun _=>()) Tryz.prog W 0 (fun _=>true) false fuel 9 cs = some (.lit (.string s),p)):cs = [.string ⟨s.toArray⟩]:=by
 obtain ⟨b,e,hx,_⟩:=DataW.trod_string Tryz.underlying9 h
 simp only [Prod.mk.injEq,DataW.lit.injEq,Lit.string.injEq] at hx
 obtain ⟨rfl,_⟩:=hx
 rw [e]
theorem lit_int {W:World} {fuel:Nat} {cs:List Value} {n:Int} {p:List MemPlace} (h:DataW.trod (fun _=>()) Tryz.prog W 0 (fun _=>true) false fuel 3 cs = some (.lit (.int .i64 n),p)):cs = [.int .i64 n]:=by
 obtain ⟨b,e,hx,_⟩:=DataW.trod_int Tryz.underlying3 h
 simp only [Prod.mk.injEq,DataW.lit.injEq,Lit.int.injEq,true_and] at hx
 obtain ⟨rfl,_⟩:=hx
 exact e
theorem lit_bool {W:World} {fuel:Nat} {cs:List Value} {b:Bool} {p:List MemPlace} (h:DataW.trod (fun _=>()) Tryz.prog W 0 (fun _=>true) false fuel 4 cs = some (.lit (.bool b),p)):cs = [.bool b]:=by
 obtain ⟨b',e,hx⟩:=DataW.trod_bool Tryz.underlying4 h
 simp only [Prod.mk.injEq,DataW.lit.injEq,Lit.bool.injEq] at hx
 obtain ⟨rfl,_⟩:=hx
 exact e
theorem fst_at {α β:Type} {xs:List (α × β)} {l:List α} (h:l = xs.map (·.1)) {i:Nat} {a:α} (hi:l[i]? = some a):∃ p,xs[i]? = some (a,p):=by
 rw [h,List.getElem?_map] at hi
 cases hx:xs[i]? with
 | none=>rw [hx] at hi;cases hi
 | some y=>
  rw [hx] at hi
  simp only [Option.map_some,Option.some.injEq] at hi
  exact ⟨y.2,by rw [← hi]⟩
theorem rows_at (k:Nat) (hk:k < 24):(Isa.rows.map rowD)[k]? = some (rowD (Isa.rows[k]?.getD Isa.noRow)):=by
 have hl:Isa.rows.length = 24:=by kernel_rfl
 simp [hl,hk]
theorem laid_isa {W : World} (h : Lib.VarReads Tryz.prog W "escapement/isa.rows" Rows.laid_escapement_isa_rows) : Isa.Laid W := by
 obtain ⟨g,t,cs,fuel,p,hg,ht,hv,hd⟩:=h
 obtain rfl : g = 0 := (Option.some.inj ((show Tryz.prog.globalNamed "escapement/isa.rows" = some 0 by kernel_rfl).symm.trans hg)).symm
 obtain rfl:t = 312:=(Option.some.inj ((show (Tryz.prog.globals[0]?).map (·.type) = some 312 by kernel_rfl).symm.trans ht)).symm
 have hcell:∀ i,W.cell? ⟨0,i,none⟩ = cs.toList[i]?:=fun i=>by rw [World.var?_cell hg hv i];simp
 rw [rows_data] at hd
 obtain ⟨xs,m,rfl,hx,_,hn,hel⟩:=DataW.trod_array Tryz.underlying312 hd
 simp only [Prod.mk.injEq,DataW.agg.injEq] at hx
 have c258:Tryz.prog.cellsOf 258 = 7:=by kernel_rfl
 have c9:Tryz.prog.cellsOf 9 = 1:=by kernel_rfl
 have c3:Tryz.prog.cellsOf 3 = 1:=by kernel_rfl
 have c4:Tryz.prog.cellsOf 4 = 1:=by kernel_rfl
 have all:∀ k,k < 24 → cs.toList[k * 7]? = some (.string ⟨(Isa.rows[k]?.getD Isa.noRow).name.toArray⟩) ∧ cs.toList[k * 7 + 1]? = some (.int .i64 (Isa.rows[k]?.getD Isa.noRow).regs) ∧ cs.toList[k * 7 + 2]? = some (.int .i64 (Isa.rows[k]?.getD Isa.noRow).target) ∧
   cs.toList[k * 7 + 3]? = some (.bool (Isa.rows[k]?.getD Isa.noRow).number) ∧ cs.toList[k * 7 + 4]? = some (.bool (Isa.rows[k]?.getD Isa.noRow).waits) ∧ cs.toList[k * 7 + 5]? = some (.bool (Isa.rows[k]?.getD Isa.noRow).ends) ∧ cs.toList[k * 7 + 6]? = some (.bool (Isa.rows[k]?.getD Isa.noRow).asks):=fun k hk=>by
  generalize hr:Isa.rows[k]?.getD Isa.noRow = r
  obtain ⟨q,hq⟩:=fst_at hx.1 (rows_at k hk)
  rw [hr] at hq
  have hk':=hel k hk
  rw [hq,c258] at hk'
  obtain ⟨ys,m2,_,hy,_,_,hf⟩:=DataW.trod_struct Tryz.underlying258 hk'
  simp only [rowD,Prod.mk.injEq,DataW.agg.injEq] at hy
  have at_:∀ i,∀ a,[DataW.lit (.string r.name),.lit (.int .i64 r.regs),.lit (.int .i64 r.target),.lit (.bool r.number),.lit (.bool r.waits),.lit (.bool r.ends),.lit (.bool r.asks)][i]? = some a → ∃ p,ys[i]? = some (a,p):=fun i a hi=>fst_at hy.1 hi
  obtain ⟨p0,e0⟩:=at_ 0 _ rfl
  obtain ⟨p1,e1⟩:=at_ 1 _ rfl
  obtain ⟨p2,e2⟩:=at_ 2 _ rfl
  obtain ⟨p3,e3⟩:=at_ 3 _ rfl
  obtain ⟨p4,e4⟩:=at_ 4 _ rfl
  obtain ⟨p5,e5⟩:=at_ 5 _ rfl
  obtain ⟨p6,e6⟩:=at_ 6 _ rfl
  have f0:DataW.trod (fun _=>()) Tryz.prog W 0 (fun _=>true) false m2 9 (List.take (Tryz.prog.cellsOf 9) (List.drop 0 (List.take 7 (List.drop (k * 7) cs.toList)))) = some (_,p0):=(hf 0 _ rfl).trans e0
  rw [c9] at f0
  have f1:DataW.trod (fun _=>()) Tryz.prog W 0 (fun _=>true) false m2 3 (List.take (Tryz.prog.cellsOf 3) (List.drop 1 (List.take 7 (List.drop (k * 7) cs.toList)))) = some (_,p1):=(hf 1 _ rfl).trans e1
  rw [c3] at f1
  have f2:DataW.trod (fun _=>()) Tryz.prog W 0 (fun _=>true) false m2 3 (List.take (Tryz.prog.cellsOf 3) (List.drop 2 (List.take 7 (List.drop (k * 7) cs.toList)))) = some (_,p2):=(hf 2 _ rfl).trans e2
  rw [c3] at f2
  have f3:DataW.trod (fun _=>()) Tryz.prog W 0 (fun _=>true) false m2 4 (List.take (Tryz.prog.cellsOf 4) (List.drop 3 (List.take 7 (List.drop (k * 7) cs.toList)))) = some (_,p3):=(hf 3 _ rfl).trans e3
  rw [c4] at f3
  have f4:DataW.trod (fun _=>()) Tryz.prog W 0 (fun _=>true) false m2 4 (List.take (Tryz.prog.cellsOf 4) (List.drop 4 (List.take 7 (List.drop (k * 7) cs.toList)))) = some (_,p4):=(hf 4 _ rfl).trans e4
  rw [c4] at f4
  have f5:DataW.trod (fun _=>()) Tryz.prog W 0 (fun _=>true) false m2 4 (List.take (Tryz.prog.cellsOf 4) (List.drop 5 (List.take 7 (List.drop (k * 7) cs.toList)))) = some (_,p5):=(hf 5 _ rfl).trans e5
  rw [c4] at f5
  have f6:DataW.trod (fun _=>()) Tryz.prog W 0 (fun _=>true) false m2 4 (List.take (Tryz.prog.cellsOf 4) (List.drop 6 (List.take 7 (List.drop (k * 7) cs.toList)))) = some (_,p6):=(hf 6 _ rfl).trans e6
  rw [c4] at f6
  exact ⟨drop_one (b:=0) (lit_str f0),drop_one (b:=1) (lit_int f1),drop_one (b:=2) (lit_int f2),drop_one (b:=3) (lit_bool f3),drop_one (b:=4) (lit_bool f4),drop_one (b:=5) (lit_bool f5),drop_one (b:=6) (lit_bool f6)⟩
 refine ⟨?_,fun k hk=>by simp only [hcell];exact all k hk⟩
 have h0:=(all 0 (by decide)).1
 rw [← hcell] at h0
 exact lt_of_cell h0
theorem pow_of {W : World} (h : Lib.VarReads Tryz.prog W "internal/strconv.uint64pow10" Rows.laid_internal_strconv_uint64pow10) : Shf.Pow W := by
 obtain ⟨g,t,cs,fuel,p,hg,ht,hv,hd⟩:=h
 obtain rfl : g = 2 := (Option.some.inj ((show Tryz.prog.globalNamed "internal/strconv.uint64pow10" = some 2 by kernel_rfl).symm.trans hg)).symm
 obtain rfl:t = 384:=(Option.some.inj ((show (Tryz.prog.globals[2]?).map (·.type) = some 384 by kernel_rfl).symm.trans ht)).symm
 rw [show (Rows.laid_internal_strconv_uint64pow10:DataW Unit) = Lib.tabData .u64 Lib.pow10Tab from by rfl] at hd
 have e:=Lib.cells_of_tab Tryz.underlying384 Tryz.underlying328 (by kernel_rfl) (by kernel_rfl) hd
 show Tryz.prog |> fun P => W.var? P "internal/strconv.uint64pow10" = some (Lib.pow10Tab.map fun z => Value.int .u64 z).toArray
 dsimp only
 rw [hv,← e]
end Go.Proofs.YtgadhchejmlfjaaGreatDoor.topReaches
