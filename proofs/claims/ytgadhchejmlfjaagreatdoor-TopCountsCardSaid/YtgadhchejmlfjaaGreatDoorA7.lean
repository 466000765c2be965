/- A part of the proof. -/
import Derived.Test.YtgadhchejmlfjaaGreatDoorA6
set_option linter.unusedVariables false
set_option maxRecDepth 20000
set_option maxHeartbeats 16000000
open Go.Value renaming int->I,pointer->J,slice->Y
open Go.IntKind renaming i64->U
open Option renaming none->N,some->Z
open Bool renaming false->tY,true->tZ
open Go renaming Calls->tT,Ending->uh,TypeId->uf,Value->tR,World->rO
open Go.Ending renaming returned->ui
open Go.Obj renaming cells->uj
open Go.RowKit renaming Below->tS
open Go.RowKit.Below renaming refl->tU
open Go.Value renaming agg->uk,bool->ue,ownBlock->ud,string->um,tuple->uo
open List renaming replicate->tW
open Go.Proofs.Tryz Go.RowKit Go.CN
namespace Go.Proofs.YtgadhchejmlfjaaGreatDoor
namespace Fq
open Go.Proofs.Tryz
open Go.Shelf Go.Proofs Go.RowKit Go.CN
def LJ:Go.Shelf.Ren:=⟨λ|156=>80|165=>141|166=>70|169=>72|240=>129|241=>213|276=>203|277=>278|n=>n,λ|31=>170|9=>9|3=>3|4=>4|0=>0|20=>20|72=>152|76=>155|70=>149|37=>150|75=>154|127=>239|164=>288|5=>5|80=>158|n=>n,λ|n=>n⟩
theorem KA:Go.Proofs.Lays.n156 prog LJ:={mixed:=by kernel_rfl,f156:=func80.trans (Aq Z (by kernel_rfl)),f165:=func141.trans (Aq Z (by kernel_rfl)),f166:=func70.trans (Aq Z (by kernel_rfl)),f169:=func72.trans (Aq Z (by kernel_rfl)),f240:=func129.trans (Aq Z (by kernel_rfl)),f241:=func213.trans (Aq Z (by kernel_rfl)),f276:=func203.trans (Aq Z (by kernel_rfl)),f277:=func278.trans (Aq Z (by kernel_rfl)),t0:=underlying0,a0:=isAgg0,z0:=sizeOf0,v0:=zeroValue0,t3:=underlying3,a3:=isAgg3,z3:=sizeOf3,v3:=zeroValue3,t4:=underlying4,a4:=isAgg4,z4:=sizeOf4,v4:=zeroValue4,t9:=underlying9,a9:=isAgg9,z9:=sizeOf9,v9:=zeroValue9,t20:=underlying20,a20:=isAgg20,z20:=sizeOf20,v20:=zeroValue20,t31:=underlying170,a31:=isAgg170,z31:=sizeOf170,v31:=zeroValue170,t37:=underlying150,a37:=isAgg150,z37:=sizeOf150,v37:=zeroValue150,t70:=underlying149,a70:=isAgg149,z70:=sizeOf149,v70:=zeroValue149,t72:=underlying152,a72:=isAgg152,z72:=sizeOf152,v72:=zeroValue152,t75:=underlying154,a75:=isAgg154,z75:=sizeOf154,v75:=zeroValue154,t76:=underlying155,a76:=isAgg155,z76:=sizeOf155,v76:=zeroValue155,t127:=underlying239,a127:=isAgg239,z127:=sizeOf239,v127:=zeroValue239,t164:=underlying288,a164:=isAgg288,z164:=sizeOf288,v164:=zeroValue288}
theorem DX:Builder.Extra prog LJ:={sizeBuilder:=by kernel_rfl,liesBuilder:=by kernel_rfl,t5:=underlying5,a5:=isAgg5,z5:=sizeOf5,v5:=zeroValue5,infoByte:=by kernel_rfl,cellsByte:=by kernel_rfl,sizeByte:=by kernel_rfl,neB5:=by decide}
def QG:Go.Shelf.Ren:=⟨λ|103=>355|210=>370|206=>376|n=>n,λ|9=>9|4=>4|24=>421|3=>3|n=>n,λ|n=>n⟩
theorem fN:Go.Proofs.Lays.n103 prog QG:={mixed:=by kernel_rfl,f103:=func355.trans (Aq Z (by kernel_rfl)),f206:=func376.trans (Aq Z (by kernel_rfl)),f210:=func370.trans (Aq Z (by kernel_rfl)),t3:=underlying3,a3:=isAgg3,z3:=sizeOf3,v3:=zeroValue3,t4:=underlying4,a4:=isAgg4,z4:=sizeOf4,v4:=zeroValue4,t9:=underlying9,a9:=isAgg9,z9:=sizeOf9,v9:=zeroValue9,t24:=underlying421,a24:=isAgg421,z24:=sizeOf421,v24:=zeroValue421}
def KB:Go.Shelf.Ren:=⟨λ|171=>134|173=>136|243=>204|246=>206|283=>267|284=>268|285=>269|286=>270|129=>317|317=>316|318=>318|319=>319|320=>320|337=>351|338=>352|n=>n,λ|3=>3|9=>9|2=>2|4=>4|171=>327|0=>0|53=>328|37=>150|5=>5|173=>331|212=>384|51=>217|20=>20|213=>385|46=>386|232=>425|233=>426|n=>n,λ|17=>2|18=>4|19=>5|n=>n⟩
theorem QH:Go.Proofs.LaysM.n171 prog KB:={mixed:=by kernel_rfl,f129:=func317.trans (Aq Z (by kernel_rfl)),f171:=func134.trans (Aq Z (by kernel_rfl)),f243:=func204.trans (Aq Z (by kernel_rfl)),f246:=func206.trans (Aq Z (by kernel_rfl)),f283:=func267.trans (Aq Z (by kernel_rfl)),f284:=func268.trans (Aq Z (by kernel_rfl)),f285:=func269.trans (Aq Z (by kernel_rfl)),f286:=func270.trans (Aq Z (by kernel_rfl)),f317:=func316.trans (Aq Z (by kernel_rfl)),f318:=func318.trans (Aq Z (by kernel_rfl)),f319:=func319.trans (Aq Z (by kernel_rfl)),f320:=func320.trans (Aq Z (by kernel_rfl)),f337:=func351.trans (Aq Z (by kernel_rfl)),f338:=func352.trans (Aq Z (by kernel_rfl)),t0:=underlying0,a0:=isAgg0,z0:=sizeOf0,v0:=zeroValue0,t2:=underlying2,a2:=isAgg2,z2:=sizeOf2,v2:=zeroValue2,t3:=underlying3,a3:=isAgg3,z3:=sizeOf3,v3:=zeroValue3,t4:=underlying4,a4:=isAgg4,z4:=sizeOf4,v4:=zeroValue4,t5:=underlying5,a5:=isAgg5,z5:=sizeOf5,v5:=zeroValue5,t9:=underlying9,a9:=isAgg9,z9:=sizeOf9,v9:=zeroValue9,t20:=underlying20,a20:=isAgg20,z20:=sizeOf20,v20:=zeroValue20,t37:=underlying150,a37:=isAgg150,z37:=sizeOf150,v37:=zeroValue150,t46:=underlying386,a46:=isAgg386,z46:=sizeOf386,v46:=zeroValue386,t51:=underlying217,a51:=isAgg217,z51:=sizeOf217,v51:=zeroValue217,t53:=underlying328,a53:=isAgg328,z53:=sizeOf328,v53:=zeroValue328,t171:=underlying327,a171:=isAgg327,z171:=sizeOf327,v171:=zeroValue327,t173:=underlying331,a173:=isAgg331,z173:=sizeOf331,v173:=zeroValue331,t212:=underlying384,a212:=isAgg384,z212:=sizeOf384,v212:=zeroValue384,t213:=underlying385,a213:=isAgg385,z213:=sizeOf385,t232:=underlying425,a232:=isAgg425,z232:=sizeOf425,v232:=zeroValue425,t233:=underlying426,a233:=isAgg426,z233:=sizeOf426,v233:=zeroValue426,g17:=by kernel_rfl,g18:=by kernel_rfl,g19:=by kernel_rfl,i0:=by kernel_rfl,i2:=by kernel_rfl,i3:=by kernel_rfl,i4:=by kernel_rfl,i5:=by kernel_rfl,i9:=by kernel_rfl,i20:=by kernel_rfl,i37:=by kernel_rfl,i46:=by kernel_rfl,i51:=by kernel_rfl,i53:=by kernel_rfl,i171:=by kernel_rfl,i173:=by kernel_rfl,i212:=by kernel_rfl,i232:=by kernel_rfl,i233:=by kernel_rfl,m17:=by kernel_rfl,m18:=by kernel_rfl,m19:=by kernel_rfl}
theorem Zz:Go.Proofs.LaysM.n173 prog KB:={QH with f173:=func136.trans (Aq Z (by kernel_rfl))}
def LK:Go.Shelf.Ren:=⟨λ|145=>271|220=>321|219=>353|217=>363|225=>364|224=>365|267=>366|266=>371|314=>372|n=>n,λ|9=>9|4=>4|59=>333|3=>3|5=>5|46=>386|146=>429|51=>217|n=>n,λ|1=>3|n=>n⟩
theorem fO:Go.Proofs.Lays.n145 prog LK:={mixed:=by kernel_rfl,f145:=func271.trans (Aq Z (by kernel_rfl)),f217:=func363.trans (Aq Z (by kernel_rfl)),f219:=func353.trans (Aq Z (by kernel_rfl)),f220:=func321.trans (Aq Z (by kernel_rfl)),f224:=func365.trans (Aq Z (by kernel_rfl)),f225:=func364.trans (Aq Z (by kernel_rfl)),f266:=func371.trans (Aq Z (by kernel_rfl)),f267:=func366.trans (Aq Z (by kernel_rfl)),f314:=func372.trans (Aq Z (by kernel_rfl)),t3:=underlying3,a3:=isAgg3,z3:=sizeOf3,v3:=zeroValue3,t4:=underlying4,a4:=isAgg4,z4:=sizeOf4,v4:=zeroValue4,t5:=underlying5,a5:=isAgg5,z5:=sizeOf5,v5:=zeroValue5,t9:=underlying9,a9:=isAgg9,z9:=sizeOf9,v9:=zeroValue9,t46:=underlying386,a46:=isAgg386,z46:=sizeOf386,v46:=zeroValue386,t51:=underlying217,a51:=isAgg217,z51:=sizeOf217,v51:=zeroValue217,t59:=underlying333,a59:=isAgg333,z59:=sizeOf333,v59:=zeroValue333,t146:=underlying429,a146:=isAgg429,z146:=sizeOf429,v146:=zeroValue429,g1:=by kernel_rfl}
def LM:Go.Shelf.Ren:=⟨λ|146=>322|221=>354|268=>367|138=>368|143=>369|195=>373|197=>374|218=>375|219=>353|260=>377|217=>363|225=>364|224=>365|267=>366|266=>371|314=>372|n=>n,λ|9=>9|31=>170|3=>3|4=>4|0=>0|105=>432|21=>21|5=>5|46=>386|119=>435|139=>438|138=>437|146=>429|51=>217|n=>n,λ|1=>3|3=>6|4=>7|n=>n⟩
theorem fP:Go.Proofs.Lays.n146 prog LM:={mixed:=by kernel_rfl,f138:=func368.trans (Aq Z (by kernel_rfl)),f143:=func369.trans (Aq Z (by kernel_rfl)),f146:=func322.trans (Aq Z (by kernel_rfl)),f195:=func373.trans (Aq Z (by kernel_rfl)),f197:=func374.trans (Aq Z (by kernel_rfl)),f217:=func363.trans (Aq Z (by kernel_rfl)),f218:=func375.trans (Aq Z (by kernel_rfl)),f219:=func353.trans (Aq Z (by kernel_rfl)),f221:=func354.trans (Aq Z (by kernel_rfl)),f224:=func365.trans (Aq Z (by kernel_rfl)),f225:=func364.trans (Aq Z (by kernel_rfl)),f260:=func377.trans (Aq Z (by kernel_rfl)),f266:=func371.trans (Aq Z (by kernel_rfl)),f267:=func366.trans (Aq Z (by kernel_rfl)),f268:=func367.trans (Aq Z (by kernel_rfl)),f314:=func372.trans (Aq Z (by kernel_rfl)),t0:=underlying0,a0:=isAgg0,z0:=sizeOf0,v0:=zeroValue0,t3:=underlying3,a3:=isAgg3,z3:=sizeOf3,v3:=zeroValue3,t4:=underlying4,a4:=isAgg4,z4:=sizeOf4,v4:=zeroValue4,t5:=underlying5,a5:=isAgg5,z5:=sizeOf5,v5:=zeroValue5,t9:=underlying9,a9:=isAgg9,z9:=sizeOf9,v9:=zeroValue9,t21:=underlying21,a21:=isAgg21,z21:=sizeOf21,v21:=zeroValue21,t31:=underlying170,a31:=isAgg170,z31:=sizeOf170,v31:=zeroValue170,t46:=underlying386,a46:=isAgg386,z46:=sizeOf386,v46:=zeroValue386,t51:=underlying217,a51:=isAgg217,z51:=sizeOf217,v51:=zeroValue217,t105:=underlying432,a105:=isAgg432,z105:=sizeOf432,v105:=zeroValue432,t119:=underlying435,a119:=isAgg435,z119:=sizeOf435,t138:=underlying437,a138:=isAgg437,z138:=sizeOf437,v138:=zeroValue437,t139:=underlying438,a139:=isAgg438,z139:=sizeOf438,v139:=zeroValue438,t146:=underlying429,a146:=isAgg429,z146:=sizeOf429,v146:=zeroValue429,g1:=by kernel_rfl,g3:=by kernel_rfl,g4:=by kernel_rfl}
theorem nT(B b:Nat)(a:List tR)(s:ByteArray)(w:rO)(h:Lib.IsBuilder 152 5 B b a w)(hlen:a.length+s.size<=140737488355328)(c:B<=w.heap.size):tT prog 70 #[J (Z ⟨b,0,N⟩),um s] w λe d=>e=ui (uo #[I U s.size,.nilIface])/\(Lib.BuilderAt 152 5 B b (J (Z ⟨b,0,N⟩)) (a++Lib.strCells s) d/\tS B w d):=Any.Builder_WriteString {KA with} DX B b a s w h hlen c
theorem nU(B b:Nat)(l:List UInt8)(w:rO)(h:Lib.IsBuilder 152 5 B b (Lib.byteCells l) w)(a:B<=w.heap.size):tT prog 72 #[J (Z ⟨b,0,N⟩)] w λe c=>e=ui (um ⟨l.toArray⟩)/\tS B w c:=Any.Builder_String_any {KA with} DX B b l w h a
theorem join(d o c:Nat)(xs:List ByteArray)(sep:ByteArray)(w:rO)(a: ∀(j:Nat) x,xs[j]?=Z x->w.cell? ⟨d,o+j,N⟩=Z (um x)) (f:d<w.heap.size) (g:xs.length<=140737488355328) (b:xs.length<=c) (hlen:(Lib.join (xs.map (·.data.toList)) sep.data.toList).length<=140737488355328):tT prog 80 #[Y (Z ⟨d,o,N⟩) xs.length c,um sep] w λe h=>e=ui (um ⟨(Lib.join (xs.map (·.data.toList)) sep.data.toList).toArray⟩)/\tS w.heap.size w h:=Any.strings_Join KA DX d o c xs sep w a f g b hlen
theorem qO(s p:ByteArray)(w:rO):tT prog 355 #[um s,um p] w λe a=>e=ui (uo #[um ⟨(Lib.trimPrefix s.data.toList p.data.toList).toArray⟩,ue (Lib.hasPrefix s.data.toList p.data.toList)])/\a=w:=Any.strings_CutPrefix fN s p w
theorem QI(w:rO)(k:Nat)(os:Array Obj):tS w.heap.size w (Go.Sort.grow (w.drewN k) os):=⟨rfl,rfl,rfl,by simp[Go.Sort.grow,World.drewN],λj a=>by show(w.heap++os)[j]?=_;rw[Array.getElem?_append,Ai a]⟩
def Pow(w:rO):Prop:=Lib.TabIs prog w "internal/strconv.uint64pow10" .u64 Lib.pow10Tab
theorem itoa(n:Int)(b: -9223372036854775808<=n)(c:n<=9223372036854775807)(w:rO)(h:Pow w):tT prog 134 #[I U n] w λe a=>e=ui (um ⟨(Lib.itoa n).toArray⟩)/\tS w.heap.size w a:=by refine(Any.strconv_Itoa QH n b c w h).mono ?_;rintro e a⟨rfl,k,os,rfl⟩;exact⟨rfl,QI w k os⟩
theorem qP(n:Int)(b: -9223372036854775808<=n)(c:n<=9223372036854775807)(w:rO)(h:Pow w):tT prog 136 #[I U n,I U 10] w λe a=>e=ui (um ⟨(Lib.itoa n).toArray⟩)/\tS w.heap.size w a:=by refine(Any.strconv_FormatInt_10 Zz n b c w h).mono ?_;rintro e a⟨rfl,k,os,rfl⟩;exact⟨rfl,QI w k os⟩
theorem cut(s sep:ByteArray)(m:Int)(w:rO)(a:s.size<4294967281)(hm:w.cell? ⟨LK.g 1,0,N⟩=Z (I U m)):tT prog 271 #[um s,um sep] w λe b=>e=ui (uo #[um ⟨(Lib.cut s.data.toList sep.data.toList).1.toArray⟩,um ⟨(Lib.cut s.data.toList sep.data.toList).2.1.toArray⟩,ue (Lib.cut s.data.toList sep.data.toList).2.2])/\ ∃n,b=w.drewN n:=Any.strings_Cut fO s sep m w a hm
theorem split(s sep:ByteArray)(m:Int)(w:rO)(a:s.size<4294967281)(hm:w.cell? ⟨LM.g 1,0,N⟩=Z (I U m))(b:1<=sep.size):tT prog 322 #[um s,um sep] w λe c=>e=ui (Y (Z ⟨w.heap.size,0,N⟩) (Lib.countB s sep+1) (Lib.countB s sep+1))/\c=w.alloc (uj ((Lib.splitB sep 0 (Lib.countB s sep) s).map Value.string).toArray 9):=Any.strings_Split fP (by kernel_rfl) s sep m w a hm b
end Fq
namespace D1
theorem kL(l:List UInt8):(l.head?≠Z 45->Lib.trimPrefix l [45]=l/\Lib.hasPrefix l [45]=tY)/\Lib.trimPrefix (45::l) [45]=l/\Lib.hasPrefix (45::l) [45]=true:=by
 refine⟨λh=>?_,by simp[Lib.trimPrefix,Lib.hasPrefix,List.isPrefixOf],by simp[Lib.hasPrefix,List.isPrefixOf]⟩;have:Lib.hasPrefix l [45]=false:=by
  cases l with
  |nil=>rfl
  |cons c l=>
   have a:(45==c)=false:=by rw[Az];intro e;rw[<-e]at h;exact h rfl
   simp[Lib.hasPrefix,List.isPrefixOf,a]
 exact⟨by simp[Lib.trimPrefix,this],this⟩
theorem S8(a:Int)(h:I9 a): ∃(m:Bool)(l:List UInt8)(u:Nat),Lib.itoa a=(if m then 45::l else l)/\a=(if m then-(u:Int)else u)/\rP l u/\u<=9223372036854775808/\(m=tY->u<9223372036854775808)/\(((if m then 45::l else l)== [48])=tZ/\l[0]?=Z 48\/((if m then 45::l else l)== [48])=tY/\l[0]?≠Z 48)/\Lib.trimPrefix (Lib.itoa a) [45]=l/\Lib.hasPrefix (Lib.itoa a) [45]=m:=by
 have k:=h.1;have i:=h.2;rcases Ht a with⟨j,e⟩|⟨j,e⟩
 ·obtain⟨d,q⟩:=Mc a.natAbs
  have q:=q (by omega);refine⟨tZ,_,_,e,by simp;omega,d,by omega,λe=>(by cases e),.inr ⟨?_,by rw[<-List.head?_eq_getElem?];exact q⟩,by rw[e];exact(kL _).2.1,by rw[e];exact(kL _).2.2⟩;simp
 ·obtain⟨d,q⟩:=Mc a.toNat
  have d0:=d.pM;have f:=(kL (Lib.decDigits a.toNat)).1 (λe=>by
   cases g:Lib.decDigits a.toNat with
   |nil=>rw[g]at e;cases e
   |cons c l=>rw[g]at e d0;have:=d0 c (by simp);simp only[List.head?_cons,Ak]at e;rw[e]at this;exact absurd this.1 (by decide))
  refine⟨tY,_,_,e,by simp;omega,d,by omega,λ_=>by omega,?_,by rw[e];exact f.1,by rw[e];exact f.2⟩;simp only[A6,Bn];rcases d.Hc with b|b
  ·left;rw[b];exact⟨rfl,rfl⟩
  ·right;exact⟨by rw[Az];intro e;rw[e]at b;exact b rfl,by rw[<-List.head?_eq_getElem?];exact b⟩
theorem byte_at(l:List UInt8)(k:Nat)(h:k<l.length):((⟨l.toArray⟩:ByteArray)[k]'(by show k<l.toArray.size;simpa using h))=l[k]:=by show l.toArray[k]'_=_;simp
theorem S9(w:rO)(l:List UInt8)(cap:Nat)(t:uf)(fr:Nat×Nat)(k:Nat)(h:k<l.length):(w.alloc (uj (bytesRow ⟨l.toArray⟩ cap) t fr)).cell? ⟨w.heap.size,k,N⟩=Z (.int .u8 (l[k]).toNat):=by
 have:(w.alloc (uj (bytesRow ⟨l.toArray⟩ cap) t fr)).heap[w.heap.size]?=Z (uj (bytesRow ⟨l.toArray⟩ cap) t fr):=by show(w.heap.push _)[w.heap.size]?=_;simp
 simp only[World.cell?,this];simp[bytesRow,Array.getElem?_append,h]
theorem Fl(a:Int)(w:rO)(h:I9 a):tT prog 326 #[um ⟨(Lib.itoa a).toArray⟩] w λe A=>e=ui (uo #[I U a,ue tZ])/\tS w.heap.size w A:=by
 obtain⟨m,l,u,B,G,g,hu,p,q,m1,m2⟩:=S8 a h;have C:Hid (tT prog 355 #[um ⟨(Lib.itoa a).toArray⟩,um ⟨#[45]⟩] w λe A=>e=ui (uo #[um ⟨l.toArray⟩,ue m])/\A=w):=by have:=Fq.qO ⟨(Lib.itoa a).toArray⟩ ⟨#[45]⟩ w;rw[show(⟨#[45]⟩:ByteArray).data.toList=[45]from rfl,show(⟨(Lib.itoa a).toArray⟩:ByteArray).data.toList=Lib.itoa a by simp,m1,m2]at this;exact this
 have hcv:=λ(w:rO)=>run_bytes_of_string w 9 150 5 ⟨l.toArray⟩ underlying9 underlying150 underlying5;have H:l.isEmpty=false:=by have:=g.ne;cases l;exact absurd rfl this;rfl
 have b:0<l.length:=Cf.2 g.ne;have K:Hid (∀k(r:k<l.length),(48<=l[k].toNat/\l[k].toNat<=57)/\JN (l.take (k+1))=JN (l.take k)*10+(l[k].toNat-48)/\JN (l.take (k+1))<=9223372036854775808):=λk r=>by refine⟨g.pM _ (BQ r),NP l k r,?_⟩;have:=NQ l (l.length-(k+1)) (by omega);rw[show l.length-(l.length-(k+1))=k+1 by omega,g.num]at this;omega
 have L:=Aa (Ab g.num (Ab hu p));have s:((⟨l.toArray⟩:ByteArray)[0]'(by show 0<l.toArray.size;simpa using b))=l[0]:=byte_at l 0 b;have hlen:l.length<=21:=by have:=Lib.itoa_length_le a h.1 (by have:=h.2;omega);rw[B]at this;cases m<;>simp at this<;>omega
 have D:=Aa hlen;have E:Hid ((((if m then 45::l else l)== [48])=tZ/\((((⟨l.toArray⟩:ByteArray)[0]'(by show 0<l.toArray.size;simpa using b)).toNat:Nat):Int)=48)\/(((if m then 45::l else l)== [48])=tY/\ ¬((((⟨l.toArray⟩:ByteArray)[0]'(by show 0<l.toArray.size;simpa using b)).toNat:Nat):Int)=48)):=by
  rw[s];rcases q with⟨i,d⟩|⟨i,d⟩<;>rw[Ae b]at d
  ·exact .inl ⟨i,by rw[Ba d];rfl⟩
  ·refine .inr ⟨i,λe=>d ?_⟩
   have M:l[0].toNat=48:=by omega
   rw[UInt8.toNat_inj.1 (show l[0].toNat=(48:UInt8).toNat from M)]
 rw[B]at C⊢;clear q hu p m1 m2 h s hlen g B;subst G;obtain⟨F,O⟩: ∃F,Hid (F=m):=⟨m,rfl⟩;go_enter func326,ntmps326;cases m<;>simp only[A6,BD,Bn]at E C⊢ <;>rcases E.out with⟨i,d⟩|⟨i,d⟩
 all_goals
  go_wp2_with(go_at_call 355;refine C.out.mono ?_;rintro e v⟨rfl,rfl⟩);clear i d H hcv E;go_loopw [2,28] (λt2 t28 wr=> ∃k:Nat,k<=l.length/\t28=I U k/\t2=I U (-(JN (l.take k):Int))/\tS v.heap.size v wr/\ ∀(j:Nat)(h:j<l.length),wr.cell? ⟨v.heap.size,j,N⟩=Z (.int .u8 (l[j]).toNat)) (λ_ t _=>l.length-(intOf t).toNat)
  case atStart=>exact⟨0,Ap _,rfl,rfl,(Cu (tU _ _) _).drew,λj P=>S9 v l _ _ _ j P⟩
  case round=>
   obtain⟨k,r,rfl,rfl,x,y⟩:=hrel;by_cases f:k<l.length
   ·have T:(k:Int)<(l.length:Int):=by omega
    have c0:=y k f;obtain⟨⟨V,a2⟩,a3,a4⟩:=K.out k f;have o:=Aa (Ab x (Ab y a3));rw[a3]at a4;generalize(l[k]).toNat=c at*
    generalize JN (l.take k)=n at*
    clear x y a3;go_wp2;have Q:=D.out;have hw:wrap64 ((k:Int)+1)=((k+1:Nat):Int):=by unfold wrap64;omega
    rw[hw];refine⟨⟨k+1,by omega,rfl,?_,o.out.1,o.out.2.1⟩,by simp[intOf];omega⟩;rw[o.out.2.2];congr 1;omega
   ·obtain rfl:k=l.length:=by omega
    have z:=L.out;rw[Cd];have o:=Aa x;rw[z.1];clear x y f r
    first
     |(have R:=z.2.2 (by trivial);have S:(-(u:Int)== -9223372036854775808)=false:=(by simp;omega);have hw:wrap64 (u:Int)=u:=(by unfold wrap64;omega);clear z R;go_wp2;go_ret2;exact⟨by first|rfl|simp[hw],o.out⟩)
     |(clear z;go_wp2;go_ret2;exact⟨rfl,o.out⟩)
section
variable {w w':rO}
theorem Pow.below(h:Fq.Pow w)(d:tS w.heap.size w w'):Fq.Pow w':=by
 unfold Fq.Pow Lib.TabIs World.var? at h⊢;cases c:prog.globalNamed "internal/strconv.uint64pow10" with
 |none=>simp[c]at h
 |some g=>
  simp only[c,Zbw]at h⊢;have a:g<w.heap.size:=by
   rcases Bc g w.heap.size with b|b
   ·exact b
   ·simp[Zaf b]at h
  rw[d.block g a];exact h
theorem Dh(a b:List UInt8):(⟨a.toArray⟩:ByteArray)++⟨b.toArray⟩=⟨(a++b).toArray⟩:=by apply ByteArray.ext;show(ByteArray.append _ _).data=_;simp
theorem DY(a b:List UInt8):Lib.byteCells (a++b)=Lib.byteCells a++Lib.byteCells b:=by simp[Lib.byteCells]
theorem Hi{T e:uf}{B b:Nat}{a:List tR}(h:Lib.IsBuilder T e B b a w)(d:tS w.heap.size w w'):Lib.IsBuilder T e B b a w':=by
 have go: ∀p,Lib.BuilderAt T e B b p a w->Lib.BuilderAt T e B b p a w':=λp h=>by have c:=h.lt;obtain⟨f,v,g,i,j⟩:=h;exact⟨f,v,(d.block b c).trans g,CM i d,j⟩
 rcases h with h|h
 ·exact .inl (go _ h)
 ·exact .inr (go _ h)
theorem Mm(w:rO)(T e:uf):Lib.IsBuilder T e w.heap.size w.heap.size [] (w.alloc (uj #[J N,Y N 0 0] T)):=.inl ⟨Al _,Y N 0 0,Cy.new w _ T,AH _ _ _ _,by simp[ud]⟩
theorem QJ(a b c:Int)(w:rO)(i:Lx (a,b,c))(l:Fq.Pow w):tT prog 73 #[I U a,I U b,I U c] w λe w'=>e=ui (um ⟨(Ds (a,b,c)).toArray⟩)/\tS w.heap.size w w':=by
 have g:=Aa i;have j:=Aa l;have r1:=(CY _ i.1).2.2;have m:=(CY _ i.2.1).2.2;have n:=(CY _ i.2.2).2.2;simp only at r1 m n;have p: ¬9223372036854775807<(Lib.itoa a).length+1:=by omega
 have q: ¬9223372036854775807<(Lib.itoa a).length+1+(Lib.itoa b).length:=by omega
 have n3: ¬9223372036854775807<(Lib.itoa a).length+1+(Lib.itoa b).length+1:=by omega
 have n4: ¬9223372036854775807<(Lib.itoa a).length+1+(Lib.itoa b).length+1+(Lib.itoa c).length:=by omega
 go_enter func73,ntmps73;go_wp2_with(go_at_call 134;first|(have o:=d;refine(Fq.itoa c (by have:=g.out.2.2;simp[I9]at this;omega) (by have:=g.out.2.2;simp[I9]at this;omega) _ (Pow.below j.out d.out)).mono ?_;rintro e r⟨rfl,h⟩;have k:=Aa (d.out.trans (h.mono d.out.size)))|(have o:=f;refine(Fq.itoa b (by have:=g.out.2.1;simp[I9]at this;omega) (by have:=g.out.2.1;simp[I9]at this;omega) _ (Pow.below j.out f.out)).mono ?_;rintro e s⟨rfl,h⟩;have d:=Aa (f.out.trans (h.mono f.out.size)))|(refine(Fq.itoa a (by have:=g.out.1;simp[I9]at this;omega) (by have:=g.out.1;simp[I9]at this;omega) _ j.out).mono ?_;rintro e t⟨rfl,h⟩;have f:=Aa h));go_ret;refine⟨?_,k.out⟩;have e: ∀x y z:List UInt8,(⟨x.toArray⟩:ByteArray)++⟨#[32]⟩++⟨y.toArray⟩++⟨#[32]⟩++⟨z.toArray⟩=⟨(Dl 32 [x,y,z]).toArray⟩:=λx y z=>by rw[show(⟨#[32]⟩:ByteArray)=⟨([32]:List UInt8).toArray⟩from rfl,Dh,Dh,Dh,Dh];simp[Dl]
 rw[e];rfl
def IA(w:rO)(lb a:Nat)(l:List (Int×Int×Int)):Prop:= ∀k,k<l.length->w.cell? ⟨lb,a+k*3,N⟩=Z (I U (l[k]?.getD (0,0,0)).1)/\w.cell? ⟨lb,a+k*3+1,N⟩=Z (I U (l[k]?.getD (0,0,0)).2.1)/\w.cell? ⟨lb,a+k*3+2,N⟩=Z (I U (l[k]?.getD (0,0,0)).2.2)
theorem N8(l:List (Int×Int×Int))(a:Option Addr)(lc:Nat)(w:rO)(Q:l.length=0\/ ∃lb G,a=Z ⟨lb,G,N⟩/\IA w lb G l/\lb<w.heap.size) (R: ∀x∈l,Lx x) (s:l.length<=65536) (S:Fq.Pow w):tT prog 20 #[.slice a l.length lc] w λe w'=>e=ui (um ⟨(C0 l).toArray⟩)/\tS w.heap.size w w':=by
 have r:=Aa (Ab Q (Ab True.intro (Ab R (Ab s S))));clear Q R s S;go_enter func20,ntmps20;go_wp2;generalize u:l.length=v at*
 have h:=Aa u;clear u;go_loopw [10] (λt wr=> ∃k:Nat,k<=v/\t=I U k/\Lib.IsBuilder 152 5 w.heap.size w.heap.size (Lib.byteCells (C0 (l.take k))) wr/\tS w.heap.size w wr) (λt _=>v-(intOf t).toNat)
 case atStart=>exact⟨0,Ap _,rfl,Mm w 152 5,Cu (tU _ _) _⟩
 case round=>
  obtain⟨k,T,rfl,z,g⟩:=hrel;by_cases j:k<v
  ·have W:(k:Int)<(v:Int):=by omega
   obtain⟨lb,G,rfl,A,H⟩:=r.out.1.resolve_left (by omega);obtain⟨p0,K,L⟩:=A k (by rw[h.out];exact j);have V: ∀i,wr.cell? ⟨lb,i,N⟩=w.cell? ⟨lb,i,N⟩:=λi=>g.cell (p:=⟨lb,i,N⟩) H;rw[<-V]at p0 K L;obtain⟨x,E⟩: ∃x,l[k]?.getD (0,0,0)=x:=⟨_,rfl⟩;have m:l[k]?=Z x:=by rw[Ae (by rw[h.out];exact j)]at E⊢;exact Aq Z E
   rw[E]at p0 K L;obtain⟨a,b,c⟩:=x;simp only at p0 K L;have d:Lx (a,b,c):=r.out.2.2.1 _ (AP m);have M:=Aa (QJ a b c (wr.alloc (uj #[I U a,I U b,I U c] 36)) d (Pow.below r.out.2.2.2.2 (g.alloc g.size _)));have X:=Aa (Hi z (Cu (tU wr.heap.size wr) (uj #[I U a,I U b,I U c] 36)));have F:=Aa (g.alloc g.size (uj #[I U a,I U b,I U c] 36));have HX:=Aa (Ab m d);have n1: ¬9223372036854775807<(Ds (a,b,c)).length+1:=by have:=Kc _ d;omega
   have B:Hid ((Lib.byteCells (C0 (l.take k))).length+((⟨(Ds (a,b,c)).toArray⟩:ByteArray)++⟨#[10]⟩).size<=140737488355328):=by
    have e1:=NR (l.take k) (λy hy=>r.out.2.2.1 y (Ca hy));have e2:=Kc _ d;have e3:(l.take k).length<=65536:=by have:=r.out.2.2.2.1;rw[AY];omega
    rw[show(⟨#[10]⟩:ByteArray)=⟨([10]:List UInt8).toArray⟩from rfl,Dh];show(Lib.byteCells (C0 (l.take k))).length+((Ds (a,b,c)++[10]).toArray).size<=_;simp only[Lib.byteCells,A9,Bk,Au,Av,AG];omega
   clear g z V E m d T A;go_wp2_with(first|(go_at_call 73;refine M.out.mono ?_;rintro e w1⟨rfl,n⟩;have O:=Aa (Hi X.out n);have C:=Aa (F.out.trans (n.mono F.out.size));clear n)|(go_at_call 70;refine(Fq.nT _ _ _ _ _ O.out B.out C.out.size).mono ?_;rintro e w2⟨rfl,D,f⟩;have P:=Aa D;have o:=Aa (C.out.trans f);clear D f));have hw:wrap64 ((k:Int)+1)=((k+1:Nat):Int):=by have:=r.out.2.2.2.1;unfold wrap64;omega
   rw[hw];refine⟨⟨k+1,by omega,rfl,.inr ?_,o.out⟩,by simp[intOf];omega⟩;have q:=P.out;rw[show(⟨#[10]⟩:ByteArray)=⟨([10]:List UInt8).toArray⟩from rfl,Dh,Zb2,<-DY]at q;rw[Bu,HX.out.1,Za1,PO];exact q
  ·obtain rfl:k=v:=by omega
   rw[AL (by rw[h.out];exact Al _)]at z;have HS:=Aa (Fq.nU _ _ _ _ z g.size);have F:=Aa g;clear z g j T;go_wp2_with(go_at_call 72;refine HS.out.mono ?_;rintro e w2⟨rfl,f⟩;have o:=Aa (F.out.trans f);clear f);go_ret;exact⟨rfl,o.out⟩
end
def Mx(w:rO):Prop:= ∃m,w.cell? ⟨3,0,N⟩=Z (I U m)
theorem Mx.lt{w:rO}(h:Mx w):3<w.heap.size:=by
 obtain⟨m,h⟩:=h;rcases Bc 3 w.heap.size with a|a
 ·exact a
 ·simp[World.cell?,Zaf a]at h
theorem Mx.below{w w':rO}(h:Mx w)(a:tS w.heap.size w w'):Mx w':=by have b:=h.lt;obtain⟨m,h⟩:=h;exact⟨m,(a.cell (p:=⟨3,0,N⟩) b).trans h⟩
theorem Ta(a b c:Int)(w:rO)(d:Lx (a,b,c))(hm:Mx w):tT prog 322 #[um ⟨(Ds (a,b,c)).toArray⟩,um ⟨#[32]⟩] w λe f=>e=ui (Y (Z ⟨w.heap.size,0,N⟩) 3 3)/\Cy f w.heap.size #[um ⟨(Lib.itoa a).toArray⟩,um ⟨(Lib.itoa b).toArray⟩,um ⟨(Lib.itoa c).toArray⟩] 9/\tS w.heap.size w f:=by
 obtain⟨m,hm⟩:=hm;have i:=(CY _ d.1).1;have j:=(CY _ d.2.1).1;have k:=(CY _ d.2.2).1;have g:=Lw 32 [Lib.itoa a,Lib.itoa b,Lib.itoa c] (by simp) (by
  intro x h;simp only[Be,List.mem_nil_iff,or_false]at h;rcases h with rfl|rfl|rfl
  ·exact i
  ·exact j
  ·exact k)
 have o:=Kc _ d;refine(Fq.split ⟨(Ds (a,b,c)).toArray⟩ ⟨#[32]⟩ m w (by show(Ds (a,b,c)).toArray.size<_;simp;omega) hm (by decide)).mono ?_;rintro e f⟨rfl,rfl⟩;have l:Lib.countB ⟨(Ds (a,b,c)).toArray⟩ ⟨#[32]⟩=2:=g.1;have n:Lib.splitB ⟨#[32]⟩ 0 2 ⟨(Ds (a,b,c)).toArray⟩=[⟨(Lib.itoa a).toArray⟩,⟨(Lib.itoa b).toArray⟩,⟨(Lib.itoa c).toArray⟩]:=g.2;rw[l,n];exact⟨rfl,Cy.new w _ 9,Cu (tU _ _) _⟩
theorem N9(a b c:Int)(e:Nat)(x y z:tR)(t0:uf)(w:rO)(B:Lx (a,b,c))(hm:Mx w)(f:Cy w e #[x,y,z] t0):tT prog 273 #[um ⟨(Ds (a,b,c)).toArray⟩,uk #[J (Z ⟨e,0,N⟩),J (Z ⟨e,1,N⟩),J (Z ⟨e,2,N⟩)]] w λr C=>r=ui (ue tZ)/\Cy C e #[I U a,I U b,I U c] t0/\Cw (λj=>j=e) w C:=by
 have s:=f.lt;have l:=Ta a b c (w.alloc (uj #[J (Z ⟨e,0,N⟩),J (Z ⟨e,1,N⟩),J (Z ⟨e,2,N⟩)] 344)) B (hm.below (Cu (tU _ _) _));rw[show(w.alloc (uj #[J (Z ⟨e,0,N⟩),J (Z ⟨e,1,N⟩),J (Z ⟨e,2,N⟩)] 344)).heap.size=w.heap.size+1 by simp]at l;have l:=Aa l;have D:=Aa (Cu (tU w.heap.size w) (uj #[J (Z ⟨e,0,N⟩),J (Z ⟨e,1,N⟩),J (Z ⟨e,2,N⟩)] 344));have E:=Aa f;have u:=Aa B;have m:Hid (Cy (w.alloc (uj #[J (Z ⟨e,0,N⟩),J (Z ⟨e,1,N⟩),J (Z ⟨e,2,N⟩)] 344)) w.heap.size #[J (Z ⟨e,0,N⟩),J (Z ⟨e,1,N⟩),J (Z ⟨e,2,N⟩)] 344):=Cy.new w _ 344;have i0: ∀W,(Instr.index 344 (uk #[J (Z ⟨e,0,N⟩),J (Z ⟨e,1,N⟩),J (Z ⟨e,2,N⟩)]) (I U 0)).run prog W= .ok (J (Z ⟨e,0,N⟩)) W:=λ_=>by kernel_rfl
 have i1: ∀W,(Instr.index 344 (uk #[J (Z ⟨e,0,N⟩),J (Z ⟨e,1,N⟩),J (Z ⟨e,2,N⟩)]) (I U 1)).run prog W= .ok (J (Z ⟨e,1,N⟩)) W:=λ_=>by kernel_rfl
 have i2: ∀W,(Instr.index 344 (uk #[J (Z ⟨e,0,N⟩),J (Z ⟨e,1,N⟩),J (Z ⟨e,2,N⟩)]) (I U 2)).run prog W= .ok (J (Z ⟨e,2,N⟩)) W:=λ_=>by kernel_rfl
 go_enter func273,ntmps273;go_wp2_with(go_at_call 322;refine l.out.mono ?_;rintro e0 v⟨rfl,o,i⟩;have n:=m.out.below (i.mono (by simp)) m.out.lt;have A:=Aa (Ab o (D.out.trans (i.mono (Bh _))));have F:=n.cell 0;have G:=n.cell 1;have H:=n.cell 2;simp only[Ad,Ac,Ag]at F G H);go_loopw [16] (λt wr=>((t=I U 0/\Cy wr e #[x,y,z] t0)\/(t=I U 1/\Cy wr e #[I U a,y,z] t0)\/(t=I U 2/\Cy wr e #[I U a,I U b,z] t0)\/(t=I U 3/\Cy wr e #[I U a,I U b,I U c] t0))/\Cy wr (w.heap.size+1) #[um ⟨(Lib.itoa a).toArray⟩,um ⟨(Lib.itoa b).toArray⟩,um ⟨(Lib.itoa c).toArray⟩] 9/\Cw (λj=>j=e) w wr) (λt _=>3-(intOf t).toNat)
 case atStart=>exact⟨.inl ⟨rfl,E.out.below A.out.2 s⟩,A.out.1,(Cw.refl _ w).below A.out.2⟩
 case round=>
  obtain⟨K,o,L⟩:=hrel;have s0:=o.cell 0;have s1:=o.cell 1;have s2:=o.cell 2;simp only[Ad,Ac,Ag]at s0 s1 s2;have g:=Aa (Ab o L);rcases K with⟨rfl,f⟩|⟨rfl,f⟩|⟨rfl,f⟩|⟨rfl,f⟩
  ·have p:=Aa (Fl a wr u.out.1)
   have h:=Aa f;go_wp2_with(go_at_call 326;refine p.out.mono ?_;rintro e0 v⟨rfl,i⟩;have f:=h.out.below i h.out.lt;have d:=Aa (Ab f i);have q:=f.free 0;have k:=f.cell 0;simp only[Ad,Ac]at k);refine⟨⟨.inr (.inl ⟨rfl,?_⟩),(g.out.1.below d.out.2 g.out.1.lt).setOther (by omega) _,(g.out.2.below d.out.2).set (.inr rfl) _ _⟩,by simp[intOf]⟩;exact d.out.1.set 0 (I U a)
  ·have p:=Aa (Fl b wr u.out.2.1)
   have h:=Aa f;go_wp2_with(go_at_call 326;refine p.out.mono ?_;rintro e0 v⟨rfl,i⟩;have f:=h.out.below i h.out.lt;have d:=Aa (Ab f i);have q:=f.free 1;have k:=f.cell 1;simp only[Ad,Ac,Ag]at k);refine⟨⟨.inr (.inr (.inl ⟨rfl,?_⟩)),(g.out.1.below d.out.2 g.out.1.lt).setOther (by omega) _,(g.out.2.below d.out.2).set (.inr rfl) _ _⟩,by simp[intOf]⟩;exact d.out.1.set 1 (I U b)
  ·have p:=Aa (Fl c wr u.out.2.2)
   have h:=Aa f;go_wp2_with(go_at_call 326;refine p.out.mono ?_;rintro e0 v⟨rfl,i⟩;have f:=h.out.below i h.out.lt;have d:=Aa (Ab f i);have q:=f.free 2;have k:=f.cell 2;simp only[Ad,Ac,Ag]at k);refine⟨⟨.inr (.inr (.inr ⟨rfl,?_⟩)),(g.out.1.below d.out.2 g.out.1.lt).setOther (by omega) _,(g.out.2.below d.out.2).set (.inr rfl) _ _⟩,by simp[intOf]⟩;exact d.out.1.set 2 (I U c)
  ·have h:=Aa f
   go_wp2;go_ret;exact⟨rfl,h.out,g.out.2⟩
end D1
namespace dW
section
open D3 (row rows Laid)
def F5(op:Int):Bool:=(row op).number||(row op).target !=0
theorem QK(op:Int)(w:rO)(h:Laid w):tT prog 135 #[I U op] w λe g=>e=ui (ue (F5 op))/\tS w.heap.size w g:=by
 unfold F5;have c:=Aa (D3.Fl op w h);have i:=Aa h;cases f:(row op).number with
 |true=>rw[f]at c;go_enter func135,ntmps135;go_wp2_with(go_at_call 205;refine c.out.mono ?_;rintro e j⟨rfl,a⟩;have b:=Aa a);go_ret;exact⟨rfl,b.out⟩
 |false=>rw[f]at c;go_enter func135,ntmps135;go_wp2_with(first|(go_at_call 205;refine c.out.mono ?_;rintro e j⟨rfl,a⟩;have b:=Aa a)|(go_at_call 130;refine(D3.Mw op _ (i.out.below b.out)).mono ?_;rintro e k⟨rfl,a⟩;have d:=Aa (b.out.trans (a.mono b.out.size))));go_ret;exact⟨rfl,d.out⟩
end
open D3 (row rows Laid Di)
def Wy(r:D3.Row):List Value:=[um ⟨r.name.toArray⟩,I U r.CO,I U r.target,ue r.number,ue r.waits,ue r.ends,ue r.asks]
def Wz:List Value:=rows.flatMap Wy
theorem kM(k j:Nat)(a:k<24)(b:j<7):Wz[k*7+j]?=(Wy (rows[k]?.getD Di))[j]?:=by rcases(show k=0\/k=1\/k=2\/k=3\/k=4\/k=5\/k=6\/k=7\/k=8\/k=9\/k=10\/k=11\/k=12\/k=13\/k=14\/k=15\/k=16\/k=17\/k=18\/k=19\/k=20\/k=21\/k=22\/k=23 by omega)with rfl|rfl|rfl|rfl|rfl|rfl|rfl|rfl|rfl|rfl|rfl|rfl|rfl|rfl|rfl|rfl|rfl|rfl|rfl|rfl|rfl|rfl|rfl|rfl<;>rcases(show j=0\/j=1\/j=2\/j=3\/j=4\/j=5\/j=6 by omega)with rfl|rfl|rfl|rfl|rfl|rfl|rfl<;>rfl
theorem ZA(w:rO)(h:Laid w):w.rangeAt 0 0 Wz:=λj v b=>by
 have d:j<168:=(Af.1 b).1;obtain⟨c0,c1,c,c3,c4,c5,c6⟩:=h.cell (j/7) (by omega);have a:=kM (j/7) (j%7) (by omega) (by omega);rw[show j/7*7+j%7=j by omega,b]at a;rw[AJ,show j=j/7*7+j%7 by omega];generalize rows[j/7]?.getD Di=r at*
 generalize j/7=q at*
 rcases(show j%7=0\/j%7=1\/j%7=2\/j%7=3\/j%7=4\/j%7=5\/j%7=6 by omega)with e|e|e|e|e|e|e<;>rw[e]at a⊢ <;>(rw[a];first|exact c0|exact c1|exact c|exact c3|exact c4|exact c5|exact c6)
theorem WA(k:Nat)(a:k<24)(w:rO):(Instr.index 312 (uk Wz.toArray) (I U k)).run prog w= .ok (uk (Wy (rows[k]?.getD Di)).toArray) w:=by rcases(show k=0\/k=1\/k=2\/k=3\/k=4\/k=5\/k=6\/k=7\/k=8\/k=9\/k=10\/k=11\/k=12\/k=13\/k=14\/k=15\/k=16\/k=17\/k=18\/k=19\/k=20\/k=21\/k=22\/k=23 by omega)with rfl|rfl|rfl|rfl|rfl|rfl|rfl|rfl|rfl|rfl|rfl|rfl|rfl|rfl|rfl|rfl|rfl|rfl|rfl|rfl|rfl|rfl|rfl|rfl<;>kernel_rfl
theorem ZB(k op:Nat)(a:k<op)(b:op<24):((rows[k]?.getD Di).name==(rows[op]?.getD Di).name)=false:=by
 have h:(List.range 24).all (λo=>(List.range o).all λk=>!((rows[k]?.getD Di).name==(rows[o]?.getD Di).name))=true:=by kernel_rfl
 have c:=Bq.1 h op (BZ.2 b);have d:=Bq.1 c k (BZ.2 a);simpa using d
theorem M2(op:Nat)(g:List UInt8)(w:rO)(o:Laid w)(p:op<24)(h:(rows[op]?.getD Di).name=g):tT prog 324 #[um ⟨g.toArray⟩] w λe q=>e=ui (uo #[I U op,ue tZ])/\tS w.heap.size w q:=by
 have i:=ZA w o;have j:Hid (∀k:Nat,k<24-> ∀W,(Instr.index 312 (uk Wz.toArray) (I U k)).run prog W= .ok (uk (Wy (rows[k]?.getD Di)).toArray) W):=λk n W=>WA k n W;have f:=Aa (Ab p h);have l:(prog.info? 312).map (·.size)=Z Wz.length:=by kernel_rfl
 generalize Wz=tab at*
 go_enter func324,ntmps324;go_wp2;rename_i s;refine wp_load_mid 312 _ rfl 0 0 rfl tab _ i underlying312 rfl l ?_;refine s _ _ ?_;go_wp2;go_loopw [7] (λt wr=> ∃k:Nat,k<=op/\t=I U k/\tS w.heap.size w wr) (λt _=>op+1-(intOf t).toNat)
 case atStart=>exact⟨0,Ap _,rfl,tU _ _⟩
 case round=>
  obtain⟨k,n,rfl,u⟩:=hrel;have a:k<24:=by have:=f.out.1;omega
  have v:(k:Int)<24:=by omega
  have b:=j.out k a;have c:=Aa u;by_cases m:k<op
  ·have d:=ZB k op m f.out.1
   rw[f.out.2]at d;unfold Wy at b;generalize rows[k]?.getD Di=r at*
   go_wp2;exact⟨⟨k+1,by omega,by go_num,Cu c.out _⟩,by simp only[intOf];omega⟩
  ·obtain rfl:k=op:=by omega
   have d:((rows[k]?.getD Di).name==g)=true:=by rw[f.out.2];simp
   unfold Wy at b;generalize rows[k]?.getD Di=r at*
   go_wp2;go_ret2;exact⟨rfl,Cu c.out _⟩
end dW
namespace Cx
theorem UK:(prog.info? 201).map (λi=>(i.zero,i.size,i.bytes))=Z (Z (uk #[I U 0,I U 0]),2,16):=by kernel_rfl
theorem eQ(w:rO)(x y:tR)(t:uf): ∀(j:Nat)(u:tR),[x,y][j]?=Z u->(w.alloc (uj #[x,y] t)).cell? ((⟨w.heap.size,0,N⟩:Addr).add j)=Z u:=by intro j u a;rw[AE,(Cy.new w #[x,y] t).cell,AJ];simpa using a
theorem nV(a b:Int): ∀x∈([I U a,I U b]:List tR),x.oneCell'=true:=by intro x c;simp at c;rcases c with rfl|rfl<;>rfl
theorem Tb.more{w w':rO}{t:Nat}{tv c:tR}{l:List Pr}{a b:Int}{tmp:Obj}(h:Tb w t tv l)(o:Du (w.alloc tmp) (t+1) 201 2 tv l.length (ys l) [I U a,I U b] c w'):Cy w' t #[tv] 199/\Tb (w'.setCell ⟨t,0,N⟩ c) t c (l++[(a,b)])/\Cw (Tf t tv) w (w'.setCell ⟨t,0,N⟩ c)/\ ∀j,Tf t c j->Tf t tv j\/w.heap.size<=j:=by
 obtain⟨i,m,p⟩:=o;have n:Cy w' t #[tv] 199:=(h.Dj.alloc tmp).kept m (λe=>h.off e.symm);have f:c.ownBlock≠Z t:=λe=>by have:=(AB i t e).1;omega
 refine⟨n,⟨n.set 0 c,?_⟩,(((Cw.refl (Tf t tv) w).alloc tmp).grown m (λk e=>.inr (.inr e))).set (.inr (.inl rfl)) _ _,λj d=>?_⟩
 ·have:=Zbk i (DO w' t 0 c) (.inr f)
  rw[Au,KX];exact this
 ·rcases d with d|d
  ·exact .inl (.inl d)
  ·rcases p j d with g|g
   ·exact .inl (.inr g)
   ·exact .inr (by simp at g;omega)
def qQ(m:Nat)(w:rO)(e:uh)(w':rO):Prop:=e=ui (J (Z ⟨w.heap.size,0,N⟩))/\ ∃tv,Tb w' w.heap.size tv (tW m (0,-1))/\tS w.heap.size w w'
theorem FD(m:Nat)(w:rO)(C:1<=m)(D:m<=256):tT prog 43 #[I U m] w (qQ m w):=by
 have r:=Aa (EY m w);rw[A8 ⟨by omega,by omega⟩]at r;have n:Hid (Tb (w.alloc (uj #[Y N 0 0] 199)) w.heap.size (Y N 0 0) []):=⟨Cy.new w _ 199,AH _ _ 201 2⟩;go_enter func43,ntmps43;go_wp2_with fail;refine r.out.mono ?_;rintro e E⟨rfl,rfl⟩;go_wp2_with fail;go_loopw [10] (λi wr=> ∃(k:Nat)(tv:tR),k<=m/\i=I U k/\Tb wr w.heap.size tv (tW k (0,-1))/\tS w.heap.size w wr) (λi _=>m-(intOf i).toNat)
 case atStart=>exact⟨0,_,Ap _,rfl,n.out,Cu (tU _ _) _⟩
 case round=>
  obtain⟨k,tv,F,rfl,o,u⟩:=hrel;have c0:=o.Dj.cell 0;have v:=o.Dj.lt;simp only[Ad,Ac]at c0;have l:=Aa o;have s:=Aa u;by_cases b:k<m
  ·have x:decide (k<m)=true:=by simpa using b
   have a:Hid ((tW k ((0,-1):Pr)).length=k):=Ci;have c:Hid (GM (wr.alloc (uj #[I U 0,I U (-1)] 201)) (w.heap.size+1) 201 2 tv (tW k ((0,-1):Pr)).length (ys (tW k (0,-1)))):=.inl (CM l.out.own (Cu (tU _ _) _));go_wp2_with(at_builtin;refine Iu underlying197 UK rfl (by decide) (by decide) (w.heap.size+1) _ rfl _ _ rfl tv _ _ ⟨wr.heap.size,0,N⟩ 1 [I U 0,I U (-1)] rfl rfl c.out rfl (eQ wr _ _ 201) (nV _ _) (by simp;omega) (by rw[a.out];omega) ?_;intro G H t;obtain⟨y,d,rfl⟩:=t.some;obtain⟨f,g,h,z⟩:=l.out.more t;have A:=f.cell 0;have K:=f.free 0;simp only[Ad,Ac]at A;rw[a.out]at g h;have p:=Aa g;have q:=Aa h);go_roundw
   case rel=>
    refine⟨k+1,Y (Z ⟨y,0,N⟩) (k+1) d,by omega,by go_num,?_,?_⟩
    ·rw[Zby];exact p.out
    ·exact Ea s.out q.out (λj B=>l.out.ge B)
   case measure=>simp[intOf];omega
  ·have x:decide (k<m)=false:=by simpa using b
   obtain rfl:k=m:=by omega
   go_wp2;go_ret;exact⟨rfl,tv,l.out,s.out⟩
end Cx
namespace jl
def es(l:List (Int×Int×Int)):List Value:=l.flatMap λx=>[I U x.1,I U x.2.1,I U x.2.2]
theorem O8(l:List (Int×Int×Int))(a b c:Int):es (l++[(a,b,c)])=es l++[I U a,I U b,I U c]:=by simp[es]
def Dx(n:Nat)(d:Int):List (Int×Int×Int):=(List.range n).map λ(i:Nat)=>((i:Int),d,(i:Int))
theorem Tc(n:Nat)(d:Int):Dx (n+1) d=Dx n d++[((n:Int),d,(n:Int))]:=by simp[Dx,Cc]
theorem Td:(prog.info? 36).map (λi=>(i.zero,i.size,i.bytes))=Z (Z (uk #[I U 0,I U 0,I U 0]),3,24):=by kernel_rfl
theorem ZC(w:rO)(x y z:tR)(t:uf): ∀(j:Nat)(u:tR),[x,y,z][j]?=Z u->(w.alloc (uj #[x,y,z] t)).cell? ((⟨w.heap.size,0,N⟩:Addr).add j)=Z u:=by have h:=Cy.new w #[x,y,z] t;intro j u hu;rw[show((⟨w.heap.size,0,N⟩:Addr).add j)=⟨w.heap.size,j,N⟩from by rw[AE,AJ]];rw[h.cell j,<-hu];simp
theorem ZD(a b c:Int): ∀x∈([I U a,I U b,I U c]:List tR),x.oneCell'=true:=by intro x d;simp at d;rcases d with rfl|rfl|rfl<;>rfl
theorem WB(n:Nat)(d:Int)(w:rO)(p:n<=65536):tT prog 33 #[I U n,I U d] w λe c=> ∃v,e=ui v/\c.ownsRow w.heap.size 36 3 v n (es (Dx n d))/\tS w.heap.size w c:=by
 have q: ¬((65536:Int)<(n:Int)):=by omega
 have r: ¬((n:Int)<0):=by omega
 go_enter func33,ntmps33;go_wp2;go_loopw [4,9] (λt4 t9 wr=> ∃k:Nat,k<=n/\t9=I U k/\wr.ownsRow w.heap.size 36 3 t4 k (es (Dx k d))/\tS w.heap.size w wr) (λ_ t _=>n-(intOf t).toNat)
 case atStart=>exact⟨0,Ap _,rfl,AH w w.heap.size 36 3,tU _ _⟩
 case round v _ _=>
  obtain⟨k,s,rfl,f,h⟩:=hrel;by_cases l:k<n
  ·have u:(k:Int)<(n:Int):=by omega
   have a:Hid (GM (wr.alloc (uj #[I U k,I U d,I U k] 36)) w.heap.size 36 3 _ k (es (Dx k d))):=.inl (CM f (Cu (tU _ _) _));have g:=Aa f;have b:=Aa h;go_wp2_with(at_builtin;refine Iu underlying52 Td rfl (by decide) (by decide) w.heap.size _ rfl _ _ rfl _ _ _ ⟨wr.heap.size,0,N⟩ 1 [I U k,I U d,I U k] rfl rfl a.out rfl (ZC wr _ _ _ 36) (ZD _ _ _) (by have:=b.out.size;simp;omega) (by omega) ?_;intro x c m;have i:=Aa m);go_roundw
   case rel=>
    refine⟨k+1,by omega,by go_num,?_,?_⟩
    ·rw[Tc,O8];exact i.out.1
    ·exact CK (Cu b.out _) i.out.2.1 (λj o=>(AB g.out j o).1)
   case measure=>simp[intOf];omega
  ·obtain rfl:k=n:=by omega
   have g:=Aa f;have b:=Aa h;go_wp2;go_ret;exact⟨_,rfl,g.out,b.out⟩
end jl
namespace C2
section
variable {mb:Nat}{V:Vr}{own:Nat->Nat}{w:rO}{s:St}
theorem KC:(prog.info? 130).map (λi=>i.size)=Z 19:=by kernel_rfl
theorem K9:prog.underlying 119=Z (.pointer 130):=by kernel_rfl
theorem ZE(w:rO)(b:Nat):(binOp .eql 119 (ptr b) (ptr b)).run prog w= .ok (ue tZ) w:=by
 obtain⟨i,a,_⟩:=AD.1 KC;have h: ∀d:Nat,(Op.equalIn (d+1) 119 (ptr b) (ptr b)).run prog w= .ok tZ w:=λd=>by simp[Op.equalIn,Co K9,sizeOf,typeInfo,a,run_sameAddr_same]
 simp only[binOp];simp[Op.equal,Op.maxDepth,h 9999]
theorem WC{b c:Nat}{f g:Array tR}(h: ¬b=c)(j:Cy w b f 130)(k:Cy w c g 130):(binOp .eql 119 (ptr b) (ptr c)).run prog w= .ok (ue tY) w:=by
 obtain⟨i,l,m⟩:=AD.1 KC;have h: ∀d:Nat,(Op.equalIn (d+1) 119 (ptr b) (ptr c)).run prog w= .ok tY w:=λd=>by simp[Op.equalIn,Co K9,sizeOf,typeInfo,l,m,run_sameAddr_other w (a:=⟨b,0,N⟩) (b:=⟨c,0,N⟩) (λe=>h (Aq Addr.block e)) j k]
 simp only[binOp];simp[Op.equal,Op.maxDepth,h 9999]
theorem fQ(w:rO)(b:Nat):(binOp .eql 119 (J N) (ptr b)).run prog w= .ok (ue tY) w:=by
 have h: ∀d:Nat,(Op.equalIn (d+1) 119 (J N) (ptr b)).run prog w= .ok tY w:=λd=>by simp[Op.equalIn,Co K9]
 simp only[binOp];simp[Op.equal,Op.maxDepth,h 9999]
theorem Jh(x y:Operand)(v:tR)(b:Nat)(w:rO):(eqGuard .eql 119 x y v (ptr b)).run prog w= .ok () w:=by cases v<;>simp[eqGuard]
theorem CE.QL(h:CE mb V own w s){b i:Nat}(d:own b=20+5*i){u:Int}(n:0<=u)(k:u<=s.gs.length):(binOp .eql 119 (Ej V.CR u) (ptr b)).run prog w= .ok (ue (decide (u=(i:Int)+1))) w:=by
 have a:=h.lg b i d;by_cases hu:u=0
 ·subst hu
  rw[show Ej V.CR 0=J N from rfl,show decide ((0:Int)=(i:Int)+1)=tY by simp;omega];exact fQ w b
 ·obtain⟨l,f⟩:=h.gp (by omega) k
  rw[l];by_cases c:u=(i:Int)+1
  ·rw[show(u-1).toNat=i by omega,<-h.fH d (Ae a),show decide (u=(i:Int)+1)=tZ by simp[c]]
   exact ZE w b
  ·rw[show decide (u=(i:Int)+1)=tY by simp[c]]
   obtain⟨_,_,o,g,_⟩:=h.Hr d (Ae a);obtain⟨_,_,m,j,_⟩:=h.Hr f (Ae (h.lg _ _ f));exact WC (by intro e;rw[e]at f;omega) j g
end
end C2
namespace LZ
theorem fR:zeroCells213.toList=Y N 0 0::tW 64 (I U 0):=by kernel_rfl
def mT(k i:Nat):Value:=if i=0 then Y N 0 0 else I U (if i-1<k then-1 else 0)
theorem ZF(w:rO):Dz (w.alloc (uj zeroCells213 213)) w.heap.size 65 213 (mT 0):=by
 have a:zeroCells213.size=65:=by kernel_rfl
 refine⟨_,Cy.new w zeroCells213 213,a,λi c=>?_⟩;rw[<-Bm,fR];unfold mT;cases i with
 |zero=>rfl
 |succ i=>
  have b:i<64:=by omega
  show(tW 64 (I U 0))[i]?=_;rw[BM,Ai b,Ah (Nat.succ_ne_zero i),Ah (by omega)]
theorem ZG(w:rO):tT prog 47 #[] w λe j=> ∃b,e=ui (J (Z ⟨b,0,N⟩))/\w.heap.size<=b/\Bx j b (Y N 0 0) [] (λ_=> -1)/\tS w.heap.size w j:=by
 have q:=Aa (ZF w);have r:=Aa (Cu (tU w.heap.size w) (uj zeroCells213 213));go_enter func47,ntmps47;go_wp2;generalize s:w.heap.size=L at*
 generalize w.alloc (uj zeroCells213 213)=y at*
 have l:=Aa s;go_loopw [5] (λt wr=> ∃k:Nat,k<=64/\t=I U k/\Dz wr L 65 213 (mT k)/\tS L w wr) (λt _=>64-(intOf t).toNat)
 case atStart=>exact⟨0,Ap _,rfl,q.out,r.out⟩
 case round=>
  obtain⟨k,u,rfl,f,m⟩:=hrel;by_cases v:k<64
  ·have x:(k:Int)<64:=by omega
   have c1:=f.cell (i:=1+k) (by omega);have f1:=f.free (1+k);have g: ¬(1+k=0):=by omega
   unfold mT at c1;rw[Ah g,Ah (by omega)]at c1;have c:=Aa (f.set (i:=1+k) (by omega) (I U (-1)));have d:=Aa (m.setCell (p:=⟨L,1+k,N⟩) (Al _) (I U (-1)));go_wp2;go_roundw
   case rel=>exact⟨k+1,by omega,by go_num,c.out.congr (λi h=>by
     unfold mT;by_cases n:i=1+k
     ·rw[Ai n,Ah (by omega),Ai (by omega)]
     ·rw[Ah n]
      by_cases a:i=0
      ·rw[Ai a,Ai a]
      ·rw[Ah a,Ah a]
       by_cases o:i-1<k
       ·rw[Ai o,Ai (by omega)]
       ·rw[Ah o,Ah (by omega)]),d.out⟩
   case measure=>simp[intOf];omega
  ·obtain rfl:k=64:=by omega
   have c:=Aa f;have d:=Aa m;go_wp2;go_ret;refine⟨L,rfl,by rw[l.out];exact Al _,?_,by rw[l.out];exact d.out⟩;refine⟨c.out.congr (λi h=>?_),?_,by simp[ud],λi h=>by simp at h,λk u=>.inl rfl⟩
   ·unfold mT
    by_cases a:i=0
    ·rw[Ai a,Ai a]
    ·rw[Ah a,Ah a,Ai (by omega)]
   ·exact AH wr 0 222 2
end LZ
namespace Cx
variable {t:Nat}{tv Yh:tR}{w w' nW:rO}{l':List Pr}
def LN(n:Nat)(i:Nat)(x:Pr):Pr:=if n<=i then(4,-1)else if x.1=4 then(3,-1)else x
def upto(n k:Nat)(l:List Pr):List Pr:=l.mapIdx (λi x=>if i<k then LN n i x else x)
def wide(l:List Pr)(n:Nat):List Pr:=l++tW (n-l.length) (4,-1)
def fS(l:List Pr)(n:Nat):List Pr:=upto n (wide l n).length (wide l n)
theorem WE(n:Nat)(l:List Pr):upto n 0 l=l:=by apply BI;intro i;simp[upto]
theorem ZH(n k:Nat)(l:List Pr):(upto n k l).length=l.length:=by simp[upto]
theorem UL(n k:Nat)(l:List Pr)(i:Nat)(h:k<=i):(upto n k l)[i]?.getD pz=l[i]?.getD pz:=by
 simp only[upto,Zbz];cases l[i]? with
 |none=>rfl
 |some x=>simp[show¬i<k by omega]
theorem WG(n k:Nat)(l:List Pr)(h:k<l.length):upto n (k+1) l=(upto n k l).set k (LN n k (l[k]?.getD pz)):=by
 apply BI;intro i;rw[Ay];simp only[upto,Zbz,List.length_mapIdx];by_cases e:k=i
 ·subst e
  simp[h]
 ·rw[Ah e]
  cases b:l[i]? with
  |none=>rfl
  |some x=>
   simp only[BJ];by_cases a:i<k
   ·rw[Ai a,Ai (by omega)]
   ·rw[Ah a,Ah (by omega)]
theorem ZI(l:List Pr)(k:Nat)(h:k<l.length):l.set k (l[k]?.getD pz)=l:=by
 apply BI;intro i;rw[Ay];by_cases e:k=i
 ·subst e;simp[h]
 ·rw[Ah e]
def KD(l:List Pr):Prop:=(cnt 3 l:Int)=Qd l
instance (l:List Pr):Decidable (KD l):=by unfold KD;infer_instance
structure Go (t:Nat) (tv:tR) (w:rO) (Yh:tR) (l':List Pr) (w':rO):Prop where
 Ii:Tb w' t Yh l'
 only:Cw (Tf t tv) w w'
 gr: ∀j,Tf t Yh j->Tf t tv j\/w.heap.size<=j
theorem Go.refl{l:List Pr}(h:Tb w t tv l):Go t tv w tv l w:=⟨h,Cw.refl _ _,λj a=>.inl a⟩
theorem Go.below(h:Go t tv w Yh l' w')(a:tS w'.heap.size w' nW):Go t tv w Yh l' nW:=⟨h.Ii.below a,h.only.below a,h.gr⟩
theorem Go.trans{a:tR}{b:List Pr}(h:Go t tv w Yh l' w')(d:Tb nW t a b)(e:Cw (Tf t Yh) w' nW)(f: ∀j,Tf t a j->Tf t Yh j\/w'.heap.size<=j):Go t tv w a b nW:=⟨d,h.only.andThen e (λj c g=>(h.gr j g).elim id (λx=>by omega)),λj c=>(f j c).elim (h.gr j) (λx=>.inr (AA h.only.size x))⟩
theorem Go.put{g n cap:Nat}(h:Go t tv w (Y (Z ⟨g,0,N⟩) n cap) l' w')(i:Nat)(a:i<l'.length)(x:Pr):Go t tv w (Y (Z ⟨g,0,N⟩) n cap) (l'.set i x) ((w'.setCell ⟨g,i*2,N⟩ (I U x.1)).setCell ⟨g,i*2+1,N⟩ (I U x.2)):=h.trans (h.Ii.put i a x) (((Cw.refl (Tf t (Y (Z ⟨g,0,N⟩) n cap)) w').set (.inr (.inr rfl)) _ _).set (.inr (.inr rfl)) _ _) (λj b=>.inl b)
def tc(t:Nat)(tv:tR)(l':List Pr)(f:Int)(w:rO)(e:uh)(w':rO):Prop:=e=ui (I U f)/\ ∃Yh,Go t tv w Yh l' w'
theorem JY(t:Nat)(tv:tR)(l:List Pr)(n:Nat)(w:rO)(h:Tb w t tv l)(h1:1<=n)(h2:n<=256)(hl:l.length<=256):tT prog 342 #[J (Z ⟨t,0,N⟩),I U n] w (tc t tv (if KD l then fS l n else l) (if KD l then 0 else 9) w):=by
 have T:=Aa (EY n w);rw[A8 ⟨by omega,by omega⟩]at T;have HC:Hid (tT prog 360 #[J (Z ⟨t,0,N⟩),I U 3] w (eK (cnt 3 l) w)):=NU t tv l 3 w h (by omega);have HH:=Aa h;by_cases m:KD l
 ·rw[Ai m,Ai m]
  have y:Hid ((cnt 3 l:Int)=Qd l):=m;go_enter func342,ntmps342;go_wp2_with fail;refine T.out.mono ?_;rintro e H⟨rfl,rfl⟩;go_wp2_with fail;refine HC.out.mono ?_;rintro e H⟨rfl,A⟩;have p:=Aa ((Go.refl HH.out).below A);have o:=Aa (DW t tv l H p.out.Ii (by omega));rw[y.out];generalize Qd l=z at*
  have V:(z !=z)=false:=by simp
  go_wp2_with fail;refine o.out.mono ?_;rintro e w2⟨rfl,B⟩;have C:=Aa (p.out.below B);go_wp2_with fail;go_loopg [20] (n-l.length) (λgk _ wr=> ∃Yh l',Go t tv w Yh l' wr/\l'=l++tW (n-l.length-gk) (4,-1)/\gk<=n-l.length)
  case atStart=>exact⟨tv,l,C.out,by simp,Al _⟩
  case round=>
   obtain⟨ah,b,Q,r,ai⟩:=hrel;have aj:b.length=l.length+(n-l.length-gk):=by rw[r];simp
   obtain⟨a,cap,rfl⟩:=Q.Ii.slice;have c0:=Q.Ii.Dj.cell 0;have ak:=Q.Ii.Dj.lt;simp only[Ad,Ac]at c0;have G:=Aa Q;have ao:=Aa r;cases gk with
   |succ j=>
    have hd:decide (b.length<n)=true:=by simp;omega
    have u:Hid (GM (wr.alloc (uj #[I U 4,I U (-1)] 201)) (t+1) 201 2 (.slice a b.length cap) b.length (ys b)):=.inl (CM G.out.Ii.own (Cu (tU _ _) _));have o:Hid (b.length<100000000):=by show _<_;omega
    have W:Hid (b++[(4,-1)]=l++tW (n-l.length-j) (4,-1)):=by show _=_;rw[r,show n-l.length-j=(n-l.length-(j+1))+1 by omega,Zby,AU]
    obtain⟨R,q⟩: ∃R,Hid (b.length=R):=⟨_,rfl⟩;rw[q.out]at c0 hd u G o;go_wp2_with(at_builtin;refine Iu underlying197 UK rfl (by decide) (by decide) (t+1) _ rfl _ _ rfl (.slice a R cap) R (ys b) ⟨wr.heap.size,0,N⟩ 1 [I U 4,I U (-1)] rfl rfl u.out rfl (eQ wr _ _ 201) (nV _ _) (by simp;omega) o.out ?_;intro v' w' X;rw[<-q.out]at X;obtain⟨g',af,rfl⟩:=X.some;obtain⟨D,K,L,M⟩:=Tb.more (by rw[q.out];exact G.out.Ii) X;rw[q.out]at D K L M;have q0:=D.cell 0;have qf:=D.free 0;simp only[Ad,Ac]at q0;have aa:=Aa (G.out.trans K L M);rw[q.out]);go_roundg j
    case rel=>exact⟨_,_,aa.out,W.out,by omega⟩
    case measure=>omega
   |zero=>
    have hd:decide (b.length<n)=false:=by simp;omega
    have ab:Hid (wide l n=b):=by show _=_;rw[r];simp[wide]
    have aq:n<=b.length:=by omega
    have ag:b.length<=256:=by omega
    go_wp2_with fail;go_loopw [42] (λi wr=> ∃(k:Nat)(c:Nat)(g2:Nat),k<=b.length/\i=I U k/\Go t tv w (Y (Z ⟨g2,0,N⟩) b.length c) (upto n k b) wr) (λi _=>b.length-(intOf i).toNat)
    case atStart=>
     obtain⟨g,ha⟩: ∃g,a=Z ⟨g,0,N⟩:=by obtain⟨_,g,ha,_⟩:=G.out.Ii.at 0 (by omega);exact⟨g,ha⟩
     subst ha;exact⟨0,cap,g,Ap _,rfl,by rw[WE];exact G.out⟩
    case round=>
     obtain⟨k,c,g2,hk,rfl,d⟩:=hrel;by_cases s:k<b.length
     ·have ad:decide (k<b.length)=true:=by simpa using s
      have E:k<(upto n k b).length:=by rw[ZH];exact s
      have y0:=d.Ii.Dj.cell 0;simp only[Ad,Ac]at y0;obtain⟨ez,g3,eg,z0,z1⟩:=d.Ii.at k E;simp only[Ak,BN]at eg;obtain⟨rfl,_⟩:=eg;rw[UL n k b k (Al _)]at z0 z1;have ar:=(d.Ii.free (k*2)).1;have au:=(d.Ii.free (k*2+1)).1;have f:=Aa (WG n k b s);have O:=Aa (ZI (upto n k b) k E);rw[UL n k b k (Al _)]at O;have ae:=Aa d;have v:=Aa (λx=>d.put k E x);have av:(k:Int)<(b.length:Int):=by omega
      by_cases P:n<=k
      ·have F:Hid (LN n k (b[k]?.getD pz)=(4,-1)):=by show _=_;unfold LN;rw[Ai P]
       rw[F.out]at f;generalize b.length=ll at*
       go_wp2_with fail;go_roundw
       case rel=>exact⟨k+1,c,g2,by omega,by go_num,by rw[f.out];exact v.out (4,-1)⟩
       case measure=>simp[intOf];omega
      ·have F:Hid (LN n k (b[k]?.getD pz)=if(b[k]?.getD pz).1=4 then(3,-1)else b[k]?.getD pz):=by show _=_;unfold LN;rw[Ah P]
       rw[F.out]at f;by_cases S:(b[k]?.getD pz).1=4
       ·rw[Ai S]at f
        rw[S]at z0;generalize(b[k]?.getD pz).2=yy at*
        generalize b.length=ll at*
        go_wp2_with fail;go_roundw
        case rel=>exact⟨k+1,c,g2,by omega,by go_num,by rw[f.out];exact v.out (3,-1)⟩
        case measure=>simp[intOf];omega
       ·rw[Ah S,O.out]at f
        have aw:((b[k]?.getD pz).1==4)=false:=by rw[Az];exact S
        generalize(b[k]?.getD pz).1=y1 at*
        generalize(b[k]?.getD pz).2=y2 at*
        generalize b.length=ll at*
        go_wp2_with fail;go_roundw
        case rel=>exact⟨k+1,c,g2,by omega,by go_num,by rw[f.out];exact ae.out⟩
        case measure=>simp[intOf];omega
     ·have ad:decide (k<b.length)=false:=by simpa using s
      obtain rfl:k=b.length:=by omega
      have HE:=Aa d;go_wp2_with fail;go_ret;exact⟨rfl,_,by unfold fS;rw[ab.out];exact HE.out⟩
 ·rw[Ah m,Ah m]
  have y:Hid (((cnt 3 l:Int) !=Qd l)=tZ):=by show _=_;simpa[KD]using m
  go_enter func342,ntmps342;go_wp2_with fail;refine T.out.mono ?_;rintro e H⟨rfl,rfl⟩;go_wp2_with fail;refine HC.out.mono ?_;rintro e H⟨rfl,A⟩;have p:=Aa ((Go.refl HH.out).below A);have o:=Aa (DW t tv l H p.out.Ii (by omega));generalize Qd l=z at*
  generalize(cnt 3 l:Int)=z3 at*
  have V:=y.out;go_wp2_with fail;refine o.out.mono ?_;rintro e w2⟨rfl,B⟩;have C:=Aa (p.out.below B);go_wp2_with fail;go_ret;exact⟨rfl,_,C.out⟩
end Cx
end Go.Proofs.YtgadhchejmlfjaaGreatDoor
namespace Go.CN
open Go.RowKit
variable {base g n cap:Nat}
theorem CH.beyond{w:rO}{l:List Int}(h:CH w base (Y (Z ⟨g,0,N⟩) n cap) l)(i:Nat)(o:n<=i)(u:tR):CH (w.setCell ⟨g,i,N⟩ u) base (Y (Z ⟨g,0,N⟩) n cap) l:=by
 obtain⟨d,⟨a,_⟩|⟨p,b,cur,a,e,f,k,hm,m,ht⟩⟩:=h
 ·simp at a
 ·simp only[As,Ak,BN]at a
  obtain⟨⟨rfl,_⟩,rfl,rfl⟩:=a;refine⟨d,.inr ⟨g,cap,cur.setIfInBounds i u,rfl,e,Cy.set (t:=3) f i u,k,hm,by simpa using m,?_⟩⟩;rw[<-ht,Zbl];apply BI;intro j;by_cases c:j<l.length
  ·rw[AN c,AN c]
   simp only[Bm];rw[Array.getElem?_setIfInBounds];simp[show¬i=j by omega]
  ·rw[A0 (by simp;omega),A0 (by simp;omega)]
theorem CH.room{w:rO}{l:List Int}(h:CH w base (Y (Z ⟨g,0,N⟩) n cap) l)(i:Nat)(f:i<cap):(w.cell? ⟨g,i,N⟩).isSome=tZ/\w.frozen? ⟨g,i,N⟩=tY/\n=l.length/\n<=cap:=by
 obtain⟨j,⟨a,_⟩|⟨k,c,cur,a,b,d,e,hm,m,ht⟩⟩:=h
 ·simp at a
 ·simp only[As,Ak,BN]at a
  obtain⟨⟨rfl,_⟩,rfl,rfl⟩:=a;have b:Cy w g cur 3:=d;refine⟨?_,b.free i,rfl,e⟩;rw[b.cell];simp[show i<cur.size by omega]
section
variable {P:Program}{t:uf}(ht:P.underlying t=Z (.slice 3))(DH:(P.info? 3).map (λi=>(i.zero,i.size,i.bytes))=Z (Z (I U 0),1,8))
include ht DH
theorem QM(base:Nat)(W:rO){ops:Array Oper}{o:Oper}{a:Act}{K:Act->rO->Prop}{Q:Exit->Act->rO->Prop}{E:Prop}(r:o.guard=N)(s y:Operand)(G:o.op= .call {callee:=.builtin .append,args:=#[s,y],argTypes:=#[t,t]})(g cap:Nat)(l:List Int)(q:Addr)(c:Nat)(m:List Int)(n1 n2 n3:Nat)(u:l.length=n1)(v:m.length=n2)(w:n1+n2=n3)(H:a.eval s=Y (Z ⟨g,0,N⟩) n1 cap)(hy:a.eval y=Y (Z q) n2 c)
  (i:CH W base (Y (Z ⟨g,0,N⟩) n1 cap) l) (hu:DG W (Y (Z q) n2 c) m) (d:n3<=cap)
  (h: ∀k,CH k base (Y (Z ⟨g,0,N⟩) n3 cap) (l++m)->W.grownBy k (Z g)->K (a.put o.dst (Y (Z ⟨g,0,N⟩) n3 cap)) k):
  if Region.wanted o (yielded ops a.tmps)=tZ then Oper.wp P o a W K Q else E:=by
 subst u v w;have hw:Region.wanted o (yielded ops a.tmps)=true:=by simp[Region.wanted,r]
 rw[Ai hw];obtain⟨i0,L,M,A,O⟩:=info_parts DH;have e:W.ownsRow base 3 1 (Y (Z ⟨g,0,N⟩) l.length cap) l.length (l.map (I U)):=i;have f: ∀(j:Nat)(x:tR),(m.map (I U))[j]?=Z x->W.cell? (q.add j)=Z x:=by
  intro j x C;rw[AZ]at C;obtain⟨z,D,rfl⟩:=AD.1 C;have n:j<m.length:=(Af.1 D).1;rcases hu.open with⟨B,_⟩|⟨_,_,_,B⟩|⟨b,off,F,he,_,_,_,R⟩
  ·simp at B
  ·simp[B]at n
  ·simp only[As,Ak]at he
   obtain⟨rfl,_,_⟩:=he;rw[AE,R j n,D];rfl
 have p: ∀x∈m.map (I U),x.oneCell'=true:=by simp[Value.oneCell']
 obtain⟨k,S,T,V⟩:=run_append_fits (P:=P) W base t o.type 3 i0 1 ht L A g l.length cap _ e q m.length c _ (by simp) f p d;unfold Oper.wp;simp[execOp,G,resolve,invoke,builtin,H,hy,S,Result.andThen];exact h k (by unfold CH;simpa using T) V
omit DH in
end
end Go.CN
namespace Go.Proofs.YtgadhchejmlfjaaGreatDoor
namespace Ref
theorem jm(w:rO):(zeroValue 3).run prog w= .ok (I U 0) w:=by kernel_rfl
def fT(base g:Nat)(L:List Int)(w:rO)(e:uh)(w':rO):Prop:= ∃v,e=ui v/\CH w' base v L/\v.ownBlock=Z g/\w.grownBy w' (Z g)
theorem WH(g cap base i p:Nat)(l:List Int)(w:rO)(h:CH w base (Y (Z ⟨g,0,N⟩) (p+1) cap) l)(hi:i<=p)(hl:p<10000000):tT prog 359 #[Y (Z ⟨g,0,N⟩) (p+1) cap,I U i,I U ((i:Int)+1)] w (fT base g (l.take i++l.drop (i+1)) w):=by
 obtain⟨t,H⟩:p+1=l.length/\p+1<=cap:=by obtain⟨a,c,he,hn,_⟩:=DG.Er h;simp only[As]at he;obtain⟨_,E,rfl⟩:=he;omega
 have E:=h.shrink i (by omega);have u:(l.take i).length=i:=by simp;omega
 have v:(l.drop (i+1)).length=p-i:=by simp;omega
 obtain⟨x,C,y⟩: ∃x,Hid (x=(if i+1=cap then 0 else i+1))/\DG w (Y (Z ⟨g,x,N⟩) (p-i) (cap-(i+1))) (l.drop (i+1)):=by
  by_cases s:i+1=cap
  ·refine⟨0,by show _=_;rw[Ai s],?_⟩
   have R:p-i=0:=by omega
   have S:l.drop (i+1)=[]:=Zbm (by omega);rw[R,S];exact DG.Ug _ _ _
  ·have K:=DG.Er h
   rw[t]at K;have:=K.drop (n:=p-i) (Gk:=cap-(i+1)) (i+1) (by omega) (by omega) (by omega);rw[AJ]at this;exact⟨i+1,by show _=_;rw[Ah s],this⟩
 have D:=Aa y;have M:=Aa E;have z:=Aa u;have q:=Aa v;have r:Hid (i+(p-i)=p):=by show _=_;omega
 clear h E y u v t;generalize l.take i=O at*
 generalize l.drop (i+1)=Q at*
 have T:((i:Int)==(i:Int)+1)=false:=by rw[Az];omega
 have V:(i:Int)<=(p:Int):=by omega
 have W:(i:Int)+1<=(cap:Int):=by omega
 have X:(p:Int)+1<=(cap:Int):=by omega
 have aa:(p:Int)<=(cap:Int):=by omega
 have d:p<=cap:=by omega
 have ab:(i:Int)<=(i:Int)+1:=by omega
 have ad:i<=cap:=by omega
 have ae:(i:Int)+1<=(p:Int)+1:=by omega
 have af:(0:Int)<=(i:Int)+1:=by omega
 have A:((i:Int)+1).toNat=i+1:=by omega
 by_cases s:i+1=cap
 ·obtain rfl:0=x:=by have:=C.out;rw[Ai s]at this;exact this.symm
  obtain rfl:i=p:=by omega
  subst s;clear C;rw[Bj]at D q r;rw[Bj]at D;go_enter func359,ntmps359;go_wp2_with fail;go_region_law(refine QM underlying22 Dv base _ rfl (.tmp 22) (.tmp 25) rfl g (i+1) O ⟨g,0,N⟩ 0 Q i 0 i z.out q.out r.out (by kernel_rfl) (by kernel_rfl) M.out D.out d ?_;intro e f k;have m:=Aa f;have b:=Aa k;clear f k)
  all_goals
   obtain⟨r1,B,F⟩:=m.out.room i (by omega);clear F;have o:=Lib.run_clear_slice (P:=prog) e 22 3 0 (I U 0) underlying22 jm rfl rfl g i 1 1 (by omega) (by intro j G;obtain rfl:j=0:=(by omega);simpa using r1) (by intro j G;obtain rfl:j=0:=(by omega);simpa using B);rw[show e.setCells g i (tW 1 (I U 0))=e.setCell ⟨g,i,N⟩ (I U 0)from rfl]at o;clear r1 B A;go_wp2;go_ret;exact⟨_,rfl,m.out.beyond i (Al _) _,rfl,(show w.grownBy e (Z g)from⟨b.out.os,b.out.tape,b.out.output,b.out.size,b.out.block⟩).trans (DO e g i _)⟩
 ·obtain rfl:i+1=x:=by have:=C.out;rw[Ah s]at this;exact this.symm
  clear C;have ag: ¬cap=i+1:=by omega
  go_enter func359,ntmps359;go_wp2_with fail;go_region_law(refine QM underlying22 Dv base _ rfl (.tmp 22) (.tmp 25) rfl g cap O ⟨g,i+1,N⟩ (cap-(i+1)) Q i (p-i) p z.out q.out r.out (by kernel_rfl) (by kernel_rfl) M.out D.out d ?_;intro e f k;have m:=Aa f;have b:=Aa k;clear f k)
  all_goals
   obtain⟨r1,B,F⟩:=m.out.room p (by omega);clear F;have o:=Lib.run_clear_slice (P:=prog) e 22 3 0 (I U 0) underlying22 jm rfl rfl g p 1 (cap-p) (by omega) (by intro j G;obtain rfl:j=0:=(by omega);simpa using r1) (by intro j G;obtain rfl:j=0:=(by omega);simpa using B);rw[show e.setCells g p (tW 1 (I U 0))=e.setCell ⟨g,p,N⟩ (I U 0)from rfl]at o;clear r1 B A;go_wp2;go_ret;exact⟨_,rfl,m.out.beyond p (Al _) _,rfl,(show w.grownBy e (Z g)from⟨b.out.os,b.out.tape,b.out.output,b.out.size,b.out.block⟩).trans (DO e g p _)⟩
end Ref
end Go.Proofs.YtgadhchejmlfjaaGreatDoor
namespace Go.CN
open Go.RowKit
section
variable {P:Program}{t:uf}(ht:P.underlying t=Z (.slice 3))(DH:(P.info? 3).map (λi=>(i.zero,i.size,i.bytes))=Z (Z (I U 0),1,8))
include ht DH
end
theorem Te(l:List Int)(g:Int)(k:Nat)(h:Ga l g=k):l.take k++l.drop (k+1)=l.erase g/\k<l.length/\g∈l:=by
 induction l generalizing k with
 |nil=>simp[Ga]at h
 |cons x l d=>
  unfold Ga at h;by_cases a:x=g
  ·rw[Ai a]at h
   obtain rfl:k=0:=by omega
   subst a;simp
  ·rw[Ah a]at h
   by_cases c:Ga l g<0
   ·rw[Ai c]at h;omega
   ·rw[Ah c]at h
    obtain⟨b,rfl⟩: ∃b,k=b+1:=⟨k-1,by omega⟩;obtain⟨e,f,i⟩:=d b (by omega);rw[List.erase_cons_tail (by simpa using a),<-e];exact⟨by simp,by simpa using f,AO _ i⟩
end Go.CN
namespace Go.Proofs.YtgadhchejmlfjaaGreatDoor
namespace Dg
open Go.Proofs.Tryz Go.RowKit Go.CN Ref
def QN(b:Nat)(ow:Int)(v:tR)(l:List Int)(g:Int)(w:rO)(e:uh)(w':rO):Prop:=e=ui (ue (decide (g∈l)))/\Sp b ow v (l.erase g) w w'
theorem MF(b:Nat)(ow:Int)(v:tR)(l:List Int)(g:Int)(w:rO)(h:Sm w b ow v l)(hl:l.length<1000000):tT prog 339 #[J (Z ⟨b,0,N⟩),I U g] w (QN b ow v l g w):=by
 have o:=Aa (NT b ow v l g w h (by omega));have hm:=P6 l g;have S:=Aa h;unfold QN;by_cases d:g∈l
 ·have E:0<=Ga l g:=by have: ¬Ga l g<0:=λe=>(hm.1 e) d;omega
  obtain⟨k,T⟩:=AF E;obtain⟨F,aa,_⟩:=Te l g k T;have G:=Aa F;rw[A8 d];unfold He at o;rw[T]at o;obtain⟨p,hp⟩: ∃p,l.length=p+1:=⟨l.length-1,by omega⟩;have V:=Aa hp;have H:k<=p:=by omega
  have ab:p<1000000:=by omega
  have ad:decide ((k:Int)<0)=false:=by simp
  go_enter func339,ntmps339;go_wp2_with fail;refine o.out.mono ?_;rintro e C⟨rfl,m⟩;have i:=Aa m;have q:=S.out.below m;have d1:=q.JC;have r:=Aa q;have HC:=Aa (ES v l C q.row.jb (by omega));go_wp2_with fail;refine HC.out.mono ?_;rintro e D⟨v3,rfl,s,K⟩;obtain⟨g3,f,rfl,ae,W⟩: ∃g3 f,v3=Y (Z ⟨g3,0,N⟩) (p+1) f/\C.heap.size<=g3/\g3<D.heap.size:=by
   rcases s.open with⟨_,h0⟩|⟨g3,f,he,h1,q,_⟩
   ·have:=V.out;rw[h0]at this;simp at this
   ·exact⟨g3,f,by rw[he,V.out],h1,q⟩
  have L:=Aa s;have t:=Aa K;have af:=i.out.size;go_wp2_with fail;refine(WH g3 f C.heap.size k p l D L.out H (by omega)).mono ?_;rintro e M⟨v4,rfl,u,O,P⟩;have h3:=r.out.below t.out;have x:Cw (λj=>j=g3) D M:=(Cw.refl _ D).grown P (λj e=>.inr (by simpa using e.symm));have X:=r.out.Dj.lt;have n:=h3.Dj.only x (λ(e:b=g3)=>by omega);have e1:=n.cell 1;have ef:=n.free 1;simp only[Ad,Ac,Ag]at e1;have Q:=Aa n;have y:=Aa u;have z:=Aa O;have R:Hid (Cw (Sf b v) w M):=(((Cw.refl (Sf b v) w).below i.out).below t.out).andThen x (λj A e=>by omega);obtain⟨a4,c4,rfl⟩: ∃a4 c4,v4= .slice a4 (l.take k++l.drop (k+1)).length c4:=by obtain⟨a,c,he,_⟩:=Sl.Er u;exact⟨a,c,he⟩
  generalize(l.take k++l.drop (k+1)).length=n4 at*
  go_wp2_with fail;go_ret;have B:(Value.slice a4 n4 c4).ownBlock≠Z b:=by rw[z.out];simp;omega
  refine⟨rfl,_,⟨Q.out.Mt,.inl ?_,B,λj A=>by have:=(y.out.lt j A).2;simpa[World.setCell]using this⟩,R.out.set (.inr (.inl rfl)) _ _,λj A=>?_⟩
  ·rw[<-G.out]
   exact(y.out.mono (Ap _)).off ((Cw.refl (λj=>j=b) M).set (.inr rfl) _ _) (P7 B)
  ·right
   rw[z.out]at A;simp at A;omega
 ·have ag:Ga l g<0:=hm.2 d
  rw[Bi d];have G:Hid (l.erase g=l):=Zao d;unfold He at o;generalize Ga l g=ix at*
  go_enter func339,ntmps339;go_wp2_with fail;refine o.out.mono ?_;rintro e C⟨rfl,m⟩;have i:=Aa m;go_wp2_with fail;go_ret;exact⟨rfl,by rw[G.out];exact Sp.same (S.out.below i.out) ((Cw.refl _ _).below i.out)⟩
end Dg
namespace C2
open Vm (CP)
variable {mb:Nat}{V:Vr}{own:Nat->Nat}{w:rO}{s:St}
section
variable {w W:rO}{b a:Nat}{x0 x1 u x2 x3 x4 u0 u1 v0 v1 v2 v3 v4:tR}{t:uf}{cs:Array tR}
def kN(i:CP):Value:=uk #[I U i.op,I U i.a,I U i.b,I U i.c,I U i.n]
def td(own:Nat->Nat)(s:St)(x:G)(ins:CP)(w:rO)(e:uh)(w':rO):Prop:= ∃f b c a,s.funcs[x.fn.toNat]?=Z f/\0<f.code.length/\e=ui (uo #[uk #[.slice b f.code.length c,a],kN ins])/\FU.Bs w a f.safe/\(∀j,a.ownBlock=Z j->own j=14)/\tS w.heap.size w w'
theorem nX(h:Cy w b #[x0,x1] t):Cy (w.setCell ⟨b,0,N⟩ u) b #[u,x1] t:=h.set 0 u
theorem nY(h:Cy w b #[x0,x1] t):Cy (w.setCell ⟨b,1,N⟩ u) b #[x0,u] t:=h.set 1 u
theorem jn(h:Cy w b #[x0,x1,x2,x3,x4] t):Cy (w.setCell ⟨b,0,N⟩ u) b #[u,x1,x2,x3,x4] t:=h.set 0 u
theorem jo(h:Cy w b #[x0,x1,x2,x3,x4] t):Cy (w.setCell ⟨b,1,N⟩ u) b #[x0,u,x2,x3,x4] t:=h.set 1 u
theorem jq(h:Cy w b #[x0,x1,x2,x3,x4] t):Cy (w.setCell ⟨b,2,N⟩ u) b #[x0,x1,u,x3,x4] t:=h.set 2 u
theorem jr(h:Cy w b #[x0,x1,x2,x3,x4] t):Cy (w.setCell ⟨b,3,N⟩ u) b #[x0,x1,x2,u,x4] t:=h.set 3 u
theorem js(h:Cy w b #[x0,x1,x2,x3,x4] t):Cy (w.setCell ⟨b,4,N⟩ u) b #[x0,x1,x2,x3,u] t:=h.set 4 u
theorem qR(h:Cy w b cs t)(c: ¬a=b):Cy ((w.setCell ⟨a,0,N⟩ u0).setCell ⟨a,1,N⟩ u1) b cs t:=h.only (oset (oset (DA a w) 0 u0) 1 u1) (λe=>c e.symm)
theorem qS{u2 u3 u4:tR}(h:Cy w b cs t)(c: ¬a=b):Cy (((((w.setCell ⟨a,0,N⟩ u0).setCell ⟨a,1,N⟩ u1).setCell ⟨a,2,N⟩ u2).setCell ⟨a,3,N⟩ u3).setCell ⟨a,4,N⟩ u4) b cs t:=h.only (oset (oset (oset (oset (oset (DA a w) 0 u0) 1 u1) 2 u2) 3 u3) 4 u4) (λe=>c e.symm)
theorem Hj(h:Cy w b cs t):Cy w.drew b cs t:=h
theorem nZ{d f g y3 y4:tR}(h:Cy W a #[x0,x1] 87)(i:Cy W b #[d,f,g,y3,y4] 84)(c: ¬a=b):Cy ((((((((W.setCell ⟨a,0,N⟩ u0).setCell ⟨a,1,N⟩ u1).setCell ⟨b,0,N⟩ v0).setCell ⟨b,1,N⟩ v1).setCell ⟨b,2,N⟩ v2).setCell ⟨b,3,N⟩ v3).setCell ⟨b,4,N⟩ v4).drew) a #[u0,u1] 87/\Cy ((((((((W.setCell ⟨a,0,N⟩ u0).setCell ⟨a,1,N⟩ u1).setCell ⟨b,0,N⟩ v0).setCell ⟨b,1,N⟩ v1).setCell ⟨b,2,N⟩ v2).setCell ⟨b,3,N⟩ v3).setCell ⟨b,4,N⟩ v4).drew) b #[v0,v1,v2,v3,v4] 84:=⟨Hj (qS (nY (nX h)) (λe=>c e.symm)),Hj (js (jr (jq (jo (jn (qR i c))))))⟩
theorem M3{S:Nat->Prop}{a:rO}{c:Nat}(h:Cw S a w)(b:S c)(i:Nat)(u:tR):Cw S a (w.setCell ⟨c,i,N⟩ u):=h.set (.inr b) i u
theorem fU:Cw (λj=>j=a\/j=b) W ((((((((W.setCell ⟨a,0,N⟩ u0).setCell ⟨a,1,N⟩ u1).setCell ⟨b,0,N⟩ v0).setCell ⟨b,1,N⟩ v1).setCell ⟨b,2,N⟩ v2).setCell ⟨b,3,N⟩ v3).setCell ⟨b,4,N⟩ v4).drew):=by have d:(λj=>j=a\/j=b) a:=.inl rfl;have c:(λj=>j=a\/j=b) b:=.inr rfl;exact(M3 (M3 (M3 (M3 (M3 (M3 (M3 (Cw.refl _ W) d 0 u0) d 1 u1) c 0 v0) c 1 v1) c 2 v2) c 3 v3) c 4 v4).drew
theorem kO{tmps:Array tR}{Q:uh->rO->Prop}(d:Cy W a #[u0,u1] 87)(c:Cy W b #[v0,v1,v2,v3,v4] 84)(t4:tmps[4]?.getD undef=ptr a)(t5:tmps[5]?.getD undef=ptr b)(k:Q (ui (uo #[uk #[u0,u1],uk #[v0,v1,v2,v3,v4]])) W):bodyPost prog f177 Q Exit.ret {tmps:=tmps,defers:=[]} W:=by have e:=d.cell 0;have k1:=d.cell 1;have f:=c.cell 0;have g:=c.cell 1;have h:=c.cell 2;have i:=c.cell 3;have j:=c.cell 4;simp only[Ad,Ag,Ac]at e k1 f g h i j;exact AM (v:=uo #[uk #[u0,u1],uk #[v0,v1,v2,v3,v4]]) (by simp[results,results177,go_sem,t4,t5,e,k1,f,g,h,i,j]) rfl k
theorem CE.at_(h:CE mb V own w s){i:Nat}{x:G}{ins:CP}(hb:own b=20+5*i)(hi:s.gs[i]?=Z x)(R:Fh s x=Z ins):tT prog 177 #[ptr mb,ptr b] w (td own s x ins w):=by
 unfold Fh at R;obtain⟨⟨h0,h1⟩,R⟩:=CT R;obtain⟨f,S,hc⟩:=bind_some R;obtain⟨y,D⟩: ∃y:Nat,x.fn=y:=⟨x.fn.toNat,by omega⟩;obtain⟨g,E⟩: ∃g:Nat,x.Dr=g:=⟨x.Dr.toNat,by omega⟩;have HF:Hid (s.funcs[x.fn.toNat]?=Z f):=Aa S;rw[D,Am]at S;rw[E,Am]at hc;obtain⟨P,T,pc,X,z,ag,aa⟩:=h.prog;have ah:=CC S;have ai:=CC hc;obtain⟨a,co,A,n,r,sc,a1,a2,a3,a4,a5,a6,a7,a8⟩:=(aa y ah).at_;rw[S]at a1 a2 a7 a8;simp only[AW]at a1 a2 a7 a8;have a9:=a7 g ai;rw[hc]at a9;simp only[AW]at a9;obtain⟨b0,b1,b2,b3,b4⟩:=a9;have c1:=h.c1;rw[X]at c1;have g2:w.cell? ⟨b,2,N⟩=Z (I U y):=by obtain⟨_,_,sv,u,_⟩:=h.Hr hb hi;rw[<-D];exact u.cell 2
 have g3:w.cell? ⟨b,3,N⟩=Z (I U g):=by obtain⟨_,_,sv,u,_⟩:=h.Hr hb hi;rw[<-E];exact u.cell 3
 have F:=h.dT;have B:b<w.heap.size:=by obtain⟨_,_,sv,u,_⟩:=h.Hr hb hi;exact u.lt
 have aj:Hid (FU.Bs w (Y (Z ⟨n,r,N⟩) f.safe.length sc) f.safe):=⟨n,r,sc,rfl,a4,a8⟩;have ab:Hid (∀j,(Y (Z ⟨n,r,N⟩) f.safe.length sc).ownBlock=Z j->own j=14):=λj hj=>by
  have e:n=j:=by simpa[ud]using hj
  rw[<-e];exact a6
 generalize ak:s.funcs.length=nf at*
 generalize ad:f.code.length=C at*
 generalize ae:f.safe.length=ns at*
 have HN:=Aa (Ab ad ae);obtain⟨op,ia,ib,ic,im⟩:=ins;simp only at b0 b1 b2 b3 b4;clear h hb hi h0 h1 R S hc D E X ag aa a5 a6 a7 a8 ak ad ae;obtain⟨W,o⟩: ∃W,(w.alloc (uj #[Y N 0 0,Y N 0 0] 87)).alloc (uj #[I U 0,I U 0,I U 0,I U 0,I U 0] 84)=W:=⟨_,rfl⟩;have t:tS w.heap.size w W:=by rw[<-o];exact Cu (Cu (tU _ _) _) _
 have v:Cy W w.heap.size #[Y N 0 0,Y N 0 0] 87:=by rw[<-o];exact(Cy.new w _ 87).below (Cu (tU _ _) _) (by simp)
 have l:Cy W (w.heap.size+1) #[I U 0,I U 0,I U 0,I U 0,I U 0] 84:=by have k:=Cy.new (w.alloc (uj #[Y N 0 0,Y N 0 0] 87)) #[I U 0,I U 0,I U 0,I U 0,I U 0] 84;rw[o]at k;simpa using k
 have ao:W.heap.size=w.heap.size+2:=by rw[<-o];simp
 rw[<-t.cell (p:=⟨mb,1,N⟩) F]at c1;rw[<-t.cell (p:=⟨b,2,N⟩) B]at g2;rw[<-t.cell (p:=⟨b,3,N⟩) B]at g3;rw[<-t.cell (p:=⟨P,T+y*2,N⟩) z]at a1;rw[<-t.cell (p:=⟨P,T+y*2+1,N⟩) z]at a2;rw[<-t.cell (p:=⟨a,co+g*5,N⟩) a3]at b0;rw[<-t.cell (p:=⟨a,co+g*5+1,N⟩) a3]at b1;rw[<-t.cell (p:=⟨a,co+g*5+2,N⟩) a3]at b2;rw[<-t.cell (p:=⟨a,co+g*5+3,N⟩) a3]at b3;rw[<-t.cell (p:=⟨a,co+g*5+4,N⟩) a3]at b4;have HW:=Aa t;go_enter func177,ntmps177;go_wp2;have k1: ¬mb=W.heap.size:=by omega
 have k2: ¬b=W.heap.size:=by omega
 have k3: ¬P=W.heap.size:=by omega
 have k4: ¬a=W.heap.size:=by omega
 obtain⟨c,H⟩: ∃c,w.heap.size+1=c:=⟨_,rfl⟩;rw[H]at l⊢;obtain⟨m,K⟩: ∃m,w.heap.size=m:=⟨_,rfl⟩;have k5: ¬m=W.heap.size:=by omega
 have k6: ¬c=W.heap.size:=by omega
 have k7: ¬mb=m:=by omega
 have k8: ¬mb=c:=by omega
 have k9: ¬b=m:=by omega
 have Sk: ¬b=c:=by omega
 have rT: ¬m=b:=by omega
 have jc: ¬c=b:=by omega
 have rU: ¬m=a:=by omega
 have rV: ¬c=a:=by omega
 have Yo: ¬m=c:=by omega
 have eH: ¬c=m:=by omega
 have rQ: ¬a=m:=by omega
 have rR: ¬a=c:=by omega
 rw[K]at v⊢;have HB:=Aa (Ab v l);have HL:=Aa (Ab o (Ab K H));have HC:=Aa (Ab F (Ab B (Ab z a3)));clear t ao o K H F B z a3 v l;go_region_held3(λq=>q.cell? ⟨mb,1,N⟩=Z (Y (Z ⟨P,T,N⟩) nf pc)/\q.cell? ⟨b,2,N⟩=Z (I U y)/\q.cell? ⟨P,T+y*2,N⟩=Z (Y (Z ⟨a,co,N⟩) C A)/\q.cell? ⟨P,T+y*2+1,N⟩=Z (Y (Z ⟨n,r,N⟩) ns sc)) (go_keep) (fail);have L:Cy (W.alloc (uj #[Y (Z ⟨a,co,N⟩) C A,Y (Z ⟨n,r,N⟩) ns sc] 87)).drew W.heap.size #[Y (Z ⟨a,co,N⟩) C A,Y (Z ⟨n,r,N⟩) ns sc] 87:=Cy.new W _ 87;have d:tS W.heap.size W (W.alloc (uj #[Y (Z ⟨a,co,N⟩) C A,Y (Z ⟨n,r,N⟩) ns sc] 87)).drew:=(Cu (tU _ _) _).drew;clear c1 g2 a1 a2;generalize(W.alloc (uj #[Y (Z ⟨a,co,N⟩) C A,Y (Z ⟨n,r,N⟩) ns sc] 87)).drew=W2 at*
 have M:=HW.out.size;have q1:b<W.heap.size:=An HC.out.2.1 M;have Q:a<W.heap.size:=An HC.out.2.2.2 M;rw[<-d.cell (p:=⟨b,3,N⟩) q1]at g3;rw[<-d.cell (p:=⟨a,co+g*5,N⟩) Q]at b0;rw[<-d.cell (p:=⟨a,co+g*5+1,N⟩) Q]at b1;rw[<-d.cell (p:=⟨a,co+g*5+2,N⟩) Q]at b2;rw[<-d.cell (p:=⟨a,co+g*5+3,N⟩) Q]at b3;rw[<-d.cell (p:=⟨a,co+g*5+4,N⟩) Q]at b4;have v:=HB.out.1.below d HB.out.1.lt;have l:=HB.out.2.below d HB.out.2.lt;have t40:=v.cell 0;have t41:=v.cell 1;have t50:=l.cell 0;have t51:=l.cell 1;have t52:=l.cell 2;have t53:=l.cell 3;have t54:=l.cell 4;have u40:=v.free 0;have u41:=v.free 1;have u50:=l.free 0;have u51:=l.free 1;have u52:=l.free 2;have u53:=l.free 3;have u54:=l.free 4;have t60:=L.cell 0;have t61:=L.cell 1;simp only[Ad,Ac,Ag]at t40 t41 t50 t51 t52 t53 t54 t60 t61;have O:=Aa (Ab HW.out (Ab d HW.out.size));have HK:=Aa (Ab v l);clear M q1 Q v l L d;have rS: ¬W.heap.size=m:=λe=>k5 e.symm;have pO: ¬W.heap.size=c:=λe=>k6 e.symm;generalize W.heap.size=L6 at*
 go_wp2;go_region_held3(λq=>q.cell? ⟨b,3,N⟩=Z (I U g)/\q.cell? ⟨L6,0,N⟩=Z (Y (Z ⟨a,co,N⟩) C A)/\q.cell? ⟨L6,1,N⟩=Z (Y (Z ⟨n,r,N⟩) ns sc)/\q.cell? ⟨a,co+g*5,N⟩=Z (I U op)/\q.cell? ⟨a,co+g*5+1,N⟩=Z (I U ia)/\q.cell? ⟨a,co+g*5+2,N⟩=Z (I U ib)/\q.cell? ⟨a,co+g*5+3,N⟩=Z (I U ic)/\q.cell? ⟨a,co+g*5+4,N⟩=Z (I U im)) (go_keep) (fail);have af:=HK.out;obtain⟨A4,A5⟩:=nZ (u0:=Y (Z ⟨a,co,N⟩) C A) (u1:=Y (Z ⟨n,r,N⟩) ns sc) (v0:=I U op) (v1:=I U ia) (v2:=I U ib) (v3:=I U ic) (v4:=I U im) af.1 af.2 Yo;have hO:Cw (λj=>j=m\/j=c) W2 (((((((W2.setCell ⟨m,0,N⟩ (Y (Z ⟨a,co,N⟩) C A)).setCell ⟨m,1,N⟩ (Y (Z ⟨n,r,N⟩) ns sc)).setCell ⟨c,0,N⟩ (I U op)).setCell ⟨c,1,N⟩ (I U ia)).setCell ⟨c,2,N⟩ (I U ib)).setCell ⟨c,3,N⟩ (I U ic)).setCell ⟨c,4,N⟩ (I U im)).drew:=fU;clear t40 t41 t50 t51 t52 t53 t54 u40 u41 u50 u51 u52 u53 u54 t60 t61 b0 b1 b2 b3 b4 g3;generalize(((((((W2.setCell ⟨m,0,N⟩ (Y (Z ⟨a,co,N⟩) C A)).setCell ⟨m,1,N⟩ (Y (Z ⟨n,r,N⟩) ns sc)).setCell ⟨c,0,N⟩ (I U op)).setCell ⟨c,1,N⟩ (I U ia)).setCell ⟨c,2,N⟩ (I U ib)).setCell ⟨c,3,N⟩ (I U ic)).setCell ⟨c,4,N⟩ (I U im)).drew=W3 at*
 go_wp2;have hB:tS w.heap.size w W3:=by
  refine Ea (O.out.1.trans (O.out.2.1.mono O.out.2.2)) hO (λj hj=>?_);rcases hj with rfl|rfl
  ·exact Nat.le_of_eq HL.out.2.1
  ·rw[<-HL.out.2.2];exact Bh _
 exact kO A4 A5 rfl rfl ⟨f,_,_,_,HF.out,by have:=HN.out.1;omega,by rw[HN.out.1];rfl,aj.out,ab.out,hB⟩
end
section
variable {w W:rO}{b:Nat}{x0 x1 x2 x3 x4 x5 u u0 u1 u2 u3 u4 u5:tR}{t:uf}
theorem oa(h:Cy w b #[x0,x1,x2,x3,x4,x5] t):Cy (w.setCell ⟨b,0,N⟩ u) b #[u,x1,x2,x3,x4,x5] t:=h.set 0 u
theorem oc(h:Cy w b #[x0,x1,x2,x3,x4,x5] t):Cy (w.setCell ⟨b,1,N⟩ u) b #[x0,u,x2,x3,x4,x5] t:=h.set 1 u
theorem od(h:Cy w b #[x0,x1,x2,x3,x4,x5] t):Cy (w.setCell ⟨b,2,N⟩ u) b #[x0,x1,u,x3,x4,x5] t:=h.set 2 u
theorem oe(h:Cy w b #[x0,x1,x2,x3,x4,x5] t):Cy (w.setCell ⟨b,3,N⟩ u) b #[x0,x1,x2,u,x4,x5] t:=h.set 3 u
theorem oh(h:Cy w b #[x0,x1,x2,x3,x4,x5] t):Cy (w.setCell ⟨b,4,N⟩ u) b #[x0,x1,x2,x3,u,x5] t:=h.set 4 u
theorem oq(h:Cy w b #[x0,x1,x2,x3,x4,x5] t):Cy (w.setCell ⟨b,5,N⟩ u) b #[x0,x1,x2,x3,x4,u] t:=h.set 5 u
theorem ZJ(h:Cy W b #[x0,x1,x2,x3,x4,x5] 270):Cy ((((((W.setCell ⟨b,0,N⟩ u0).setCell ⟨b,1,N⟩ u1).setCell ⟨b,2,N⟩ u2).setCell ⟨b,3,N⟩ u3).setCell ⟨b,4,N⟩ u4).setCell ⟨b,5,N⟩ u5) b #[u0,u1,u2,u3,u4,u5] 270:=oq (oh (oe (od (oc (oa h)))))
theorem fV{tmps:Array tR}{Q:uh->rO->Prop}(h:Cy W b #[u0,u1,u2,u3,u4,u5] 270)(t4:tmps[4]?.getD undef=ptr b)(c:Q (ui (uk #[u0,u1,u2,u3,u4,u5])) W):bodyPost prog f179 Q Exit.ret {tmps:=tmps,defers:=[]} W:=by have a:=h.cell 0;have k1:=h.cell 1;have k2:=h.cell 2;have k3:=h.cell 3;have k4:=h.cell 4;have k5:=h.cell 5;simp only[Ad,Ag,Ac]at a k1 k2 k3 k4 k5;exact AM (v:=uk #[u0,u1,u2,u3,u4,u5]) (by simp[results,results179,go_sem,t4,a,k1,k2,k3,k4,k5]) rfl c
theorem CE.flags(h:CE mb V own w s){xb j i m:Nat}{y:M1}{x:G}{a:Pc}(D:own xb=22+5*j)(u:s.ms[j]?=Z y)(Q:own b=20+5*i)(R:s.gs[i]?=Z x)(x2:w.cell? ⟨xb,2,N⟩=Z (ptr b))(hp:y.p=(m:Int))(S:s.asked[m]?=Z a):tT prog 179 #[ptr mb,ptr xb] w λe d=>e=ui (FU.PF y.CU a.pre a.Eo s.sc.Cz (x.Db !=0) (decide (20<=y.used)))/\tS w.heap.size w d:=by
 obtain⟨g,cap,hv,hg,n1,n2,aa,a0,a1,a2,f0,f1,f2⟩:=h.ask S;have c7:=h.c7;rw[hv]at c7;have Kx:=h.Kx;have q:(m:Int)<(s.asked.length:Int):=by have:=CC S;omega
 have x1:=LH (h.C3 D u);rw[hp]at x1;have x4:=pT (h.C3 D u);have x5:=pU (h.C3 D u);have z:w.cell? ⟨b,18,N⟩=Z (I U x.Db):=by obtain⟨_,_,sv,n,_⟩:=h.Hr Q R;exact n.cell 18
 have E:=h.dT;have o:=(h.C3 D u).lt;have F:b<w.heap.size:=by obtain⟨_,_,sv,n,_⟩:=h.Hr Q R;exact n.lt
 obtain⟨ap,l,ac⟩:=a;obtain⟨r,H⟩: ∃r,x.Db=r:=⟨_,rfl⟩;obtain⟨st,K⟩: ∃st,s.sc.Cz=st:=⟨_,rfl⟩;obtain⟨t,L⟩: ∃t,y.CU=t:=⟨_,rfl⟩;obtain⟨us,M⟩: ∃us,y.used=us:=⟨_,rfl⟩;rw[H]at z⊢;rw[K]at Kx⊢;rw[L]at x4⊢;rw[M]at x5⊢;simp only at a0 a1 a2⊢;generalize s.asked.length=na at*
 go_enter func179,ntmps179;go_wp2;go_region_held3(λd=>d.cell? ⟨mb,7,N⟩=Z (Y (Z ⟨g,0,N⟩) na cap)/\d.cell? ⟨xb,1,N⟩=Z (I U m)/\d.cell? ⟨g,m*3,N⟩=Z (ue ap)/\d.cell? ⟨g,m*3+1,N⟩=Z (ue l)/\d.cell? ⟨g,m*3+2,N⟩=Z (I U ac)) (go_keep) (fail);rename_i hh;have v:tS w.heap.size w (((w.alloc (uj #[ue tY,ue tY,ue tY,ue tY,ue tY,ue tY] 270)).alloc (uj #[ue ap,ue l,I U ac] 139)).drew):=(Cu (Cu (tU _ _) _) _).drew;have f:Cy ((((w.alloc (uj #[ue tY,ue tY,ue tY,ue tY,ue tY,ue tY] 270)).alloc (uj #[ue ap,ue l,I U ac] 139)).drew)) w.heap.size #[ue tY,ue tY,ue tY,ue tY,ue tY,ue tY] 270:=Hj ((Cy.new w _ 270).below (Cu (tU _ _) _) (by simp));have T:Cy ((((w.alloc (uj #[ue tY,ue tY,ue tY,ue tY,ue tY,ue tY] 270)).alloc (uj #[ue ap,ue l,I U ac] 139)).drew)) (w.heap.size+1) #[ue ap,ue l,I U ac] 139:=by have k:=Cy.new (w.alloc (uj #[ue tY,ue tY,ue tY,ue tY,ue tY,ue tY] 270)) #[ue ap,ue l,I U ac] 139;simpa using Hj k
 rw[<-v.cell (p:=⟨mb,18,N⟩) E]at Kx;rw[<-v.cell (p:=⟨xb,2,N⟩) o]at x2;rw[<-v.cell (p:=⟨xb,4,N⟩) o]at x4;rw[<-v.cell (p:=⟨xb,5,N⟩) o]at x5;rw[<-v.cell (p:=⟨b,18,N⟩) F]at z;generalize(((w.alloc (uj #[ue tY,ue tY,ue tY,ue tY,ue tY,ue tY] 270)).alloc (uj #[ue ap,ue l,I U ac] 139)).drew)=W at*
 have t0:=f.cell 0;have t1:=f.cell 1;have t2:=f.cell 2;have t3:=f.cell 3;have t4:=f.cell 4;have t5:=f.cell 5;have f0:=f.free 0;have f1:=f.free 1;have f2:=f.free 2;have f3:=f.free 3;have f4:=f.free 4;have f5:=f.free 5;have p0:=T.cell 0;have X:=T.cell 1;simp only[Ad,Ac,Ag]at t0 t1 t2 t3 t4 t5 p0 X;obtain⟨B,O⟩: ∃B,w.heap.size+1=B:=⟨_,rfl⟩;obtain⟨c,C⟩: ∃c,w.heap.size=c:=⟨_,rfl⟩;have k5: ¬c=mb:=by omega
 have k6: ¬c=xb:=by omega
 have k7: ¬c=b:=by omega
 have k8: ¬c=B:=by omega
 rw[O]at p0 X⊢;rw[C]at t0 t1 t2 t3 t4 t5 f0 f1 f2 f3 f4 f5 f⊢;have P:=Aa (Ab v (Ab C f));go_wp2;go_region_held3(λd=>d.cell? ⟨mb,18,N⟩=Z (ue st)/\d.cell? ⟨xb,2,N⟩=Z (ptr b)/\d.cell? ⟨xb,4,N⟩=Z (ue t)/\d.cell? ⟨xb,5,N⟩=Z (I U us)/\d.cell? ⟨b,18,N⟩=Z (I U r)/\d.cell? ⟨B,0,N⟩=Z (ue ap)/\d.cell? ⟨B,1,N⟩=Z (ue l)) (go_keep) (fail);have A:Cy (((((((W.setCell ⟨c,0,N⟩ (ue t)).setCell ⟨c,1,N⟩ (ue ap)).setCell ⟨c,2,N⟩ (ue l)).setCell ⟨c,3,N⟩ (ue st)).setCell ⟨c,4,N⟩ (ue (r !=0))).setCell ⟨c,5,N⟩ (ue (decide (20<=us)))).drew) c #[ue t,ue ap,ue l,ue st,ue (r !=0),ue (decide (20<=us))] 270:=Hj (ZJ P.out.2.2);have hO:Cw (λj=>j=c) W (((((((W.setCell ⟨c,0,N⟩ (ue t)).setCell ⟨c,1,N⟩ (ue ap)).setCell ⟨c,2,N⟩ (ue l)).setCell ⟨c,3,N⟩ (ue st)).setCell ⟨c,4,N⟩ (ue (r !=0))).setCell ⟨c,5,N⟩ (ue (decide (20<=us)))).drew):=(oset (oset (oset (oset (oset (oset (DA c W) 0 _) 1 _) 2 _) 3 _) 4 _) 5 _).drew;rename_i hh;generalize((((((W.setCell ⟨c,0,N⟩ (ue t)).setCell ⟨c,1,N⟩ (ue ap)).setCell ⟨c,2,N⟩ (ue l)).setCell ⟨c,3,N⟩ (ue st)).setCell ⟨c,4,N⟩ (ue (r !=0))).setCell ⟨c,5,N⟩ (ue (decide (20<=us)))).drew=W3 at*
 go_wp2;refine fV A rfl ⟨rfl,Ea P.out.1 hO (λj u=>?_)⟩;rw[show j=c from u];exact Nat.le_of_eq P.out.2.1
end
end C2
namespace QO
theorem Ji(n:Int)(w:rO)(a:1<=n)(b:n<=61):tT prog 35 #[I U n] w λe c=>e=ui (ue tZ)/\w=c:=by
 have d1:decide (1<=n)=true:=by simpa using a
 have d2:decide (n<=61)=true:=by simpa using b
 go_enter func35,ntmps35;go_wp2;go_ret;exact⟨rfl,rfl⟩
theorem M2(o a:Int)(w:rO):tT prog 38 #[I U o,I U a] w λe b=>e=ui (uk #[I U o,I U a,I U 0,I U 0,I U 0])/\tS w.heap.size w b:=by go_enter func38,ntmps38;go_wp2;exact AM (v:=uk #[I U o,I U a,I U 0,I U 0,I U 0]) (by simp[results,results38,go_sem]) rfl ⟨rfl,Cu (tU _ _) _⟩
def jt(W:rO)(base:Nat)(e:uf)(size:Nat)(v:tR)(n:Nat)(xs:List tR)(m:Nat)(ys:List tR)(v':tR)(w':rO):Prop:=w'.ownsRow base e size v' (n+m) (xs++ys)/\W.grownBy w' v.ownBlock
section
variable {P:Program}{t e:uf}{size bytes:Nat}{z:tR}(ht:P.underlying t=Z (.slice e))(DH:(P.info? e).map (λi=>(i.zero,i.size,i.bytes))=Z (Z z,size,bytes))(Ye:z.cells.size=size)(Yf:0<size)(dO:bytes<=1000)
include ht DH Ye Yf dO
theorem ju(base:Nat)(W:rO){ops:Array Oper}{rest:List Oper}{o:Oper}{a:Act}{Q:Exit->Act->rO->Prop}(r:o.guard=N)(s y:Operand)(F:o.op= .call {callee:=.builtin .append,args:=#[s,y],argTypes:=#[t,t]})(v:tR)(n:Nat)(xs:List tR)(u:Addr)(m c:Nat)(ys:List tR)(G:a.eval s=v)(hy:a.eval y=Y (Z u) m c)
  (f:W.ownsRow base e size v n xs) (w:ys.length=m*size) (b: ∀(j:Nat)(x:tR),ys[j]?=Z x->W.cell? (u.add j)=Z x) (g: ∀x∈ys,x.oneCell'=tZ) (d:base<=W.heap.size) (hlen:n+m<100000000)
  (h: ∀l p,jt W base e size v n xs m ys l p->wpList P ops Q rest (a.put o.dst l) p):
  wpList P ops Q (o::rest) a W:=by
 refine wpList_plain r λK H=>?_;obtain⟨i0,A,B,C,D⟩: ∃i,P.info? e=Z i/\i.zero=Z z/\i.size=size/\i.bytes=bytes:=by obtain⟨i,A,q⟩:=AD.1 DH;simp only[AV]at q;exact⟨i,A,q.1,q.2.1,q.2.2⟩
 have k:(n+m)*bytes<=140737488355328:=by have:=Nat.mul_le_mul (show n+m<=100000000 by omega) dO;omega
 have E:n+m<=maxLen:=by unfold maxLen;omega
 obtain⟨l,p,L,M,O,_⟩:=run_append_own (P:=P) W base t o.type e i0 z size bytes ht A B C D Ye Yf v n xs f u m c ys w b g E k d;unfold Oper.wp;simp[execOp,F,resolve,invoke,builtin,G,hy,L,Result.andThen];exact H _ _ (h l p ⟨M,O⟩)
end
theorem M4:(prog.info? 84).map (λi=>(i.zero,i.size,i.bytes))=Z (Z (uk #[I U 0,I U 0,I U 0,I U 0,I U 0]),5,40):=by kernel_rfl
def La(i:Int×Int):List Value:=[I U i.1,I U 0,I U 0,I U 0,I U i.2]
theorem QP(l:List (Int×Int)): ∀x∈l.flatMap La,x.oneCell'=true:=by intro x b;obtain⟨i,_,a⟩:=Zai.1 b;simp[La]at a;rcases a with rfl|rfl|rfl<;>rfl
end QO
end Go.Proofs.YtgadhchejmlfjaaGreatDoor
