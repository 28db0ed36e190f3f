import Derived.Test.YtgjokhodccacoaaDoorSRecF3
import Derived.Test.YtgjokhodccacoaaDoorSMe
import Derived.Test.YtgjokhodccacoaaDoorSRecLaid
import Derived.Test.YtgjokhodccacoaaDoorTie
import Derived.Test.YtgjokhodccacoaaDoorCards
import Derived.SevenTiedAt
import Derived.Test.YtgjokhodccacoaaDoorRows
import Derived.Test.YtgjokhodccacoaaDoorSOpn
import Derived.WalkKit
import Derived.ProofKit
import Derived.OpenShut
import Derived.ShutString
import Derived.ChangeOld
import Derived.Below
set_option linter.unusedSimpArgs false
set_option linter.unusedVariables false
namespace Go.Proofs.YtgjokhodccacoaaDoor
open Go.ChangeShapes Go.WideShapes Go.ChangeAt Go.RowKit Go.Vm
theorem rf_own:ownKnob Tryd.prog.godebug = none:=by kernel_rfl
theorem rf_laidOut:laidOutB Tryd.prog = true:=by kernel_rfl
theorem u_int:Tryd.prog.underlying 3 = some (.int .i64):=by kernel_rfl
theorem u_u16:Tryd.prog.underlying 75 = some (.int .u16):=by kernel_rfl
theorem u_u8:Tryd.prog.underlying 5 = some (.int .u8):=by kernel_rfl
theorem u_bool:Tryd.prog.underlying 4 = some .bool:=by kernel_rfl
def mkB (l:List Int):Int:=l.getD 0 0
theorem mkB_enc (l:List Int) (h:l.length = 1):eB (mkB l) = l.map (Value.int .u8):=by
 match l,h with
 | [_],_=>rfl
theorem mkB_wf (l:List Int) (h:l.length = 1) (hw : ∀ z∈l,(Lit.int .u8 z).wf = true):0≤mkB l∧mkB l≤255:=by
 match l,h,hw with
 | [a],_,hw =>
  have:=hw a (by simp)
  simp [Lit.wf,IntKind.min,IntKind.max,IntKind.signed,IntKind.bits] at this
  show 0≤a∧a≤255
  omega
theorem rf_list2 {l:List Value} {a0:Value} {a1:Value} (h:l.length = 2) (h0:l[0]? = some a0) (h1:l[1]? = some a1):l = [a0,a1]:=by
 match l,h with
 | [_,_],_ =>
  simp at h0 h1
  subst h0 h1
  rfl
theorem rf_w (A0 : Option Addr) (n0 c0 : Nat) (fs : List Fw) (i1 : Int) (i2 : Int) (W : World) (ht : Tab W) (hn0 : fs.length = n0) (r0 : Row W A0 n0 c0 (fwCells fs)) (w0 : ∀ f ∈ fs, FwOK W f) (b1 : 0 ≤ i1 ∧ i1 ≤ 65535) (b2 : 0 ≤ i2 ∧ i2 ≤ 65535) :
    Calls Tryd.prog 11 #[.slice A0 n0 c0,.agg #[.int .u16 i1,.int .u16 i2]] W fun e W'=>e = .returned (.bool true)∧Below W.heap.size W W':=by
 obtain ⟨φ,κ,R,e0,o0⟩:=frames_entry ht w0 r0 hn0
 refine ((by obtain ⟨A,rfl⟩:=Int.eq_ofNat_of_zero_le b1.1; obtain ⟨M,rfl⟩:=Int.eq_ofNat_of_zero_le b2.1; exact finds_c n0 c0 A M (fs.map Fw.pf) (by rw [List.length_map]; exact hn0) (fun f hf=>by
  obtain ⟨g,hg,rfl⟩:=List.mem_map.1 hf
  exact (w0 g hg).isb) (by omega) (by omega):Fc Tryd.prog 11 [.slice (some ⟨n0 + 1,0,none⟩) n0 c0,.agg #[.int .u16 i1,.int .u16 i2]] (Hp (n0 + 2) (frMem (fs.map Fw.pf))) (.bool true) (Hp (n0 + 2) (frMem (fs.map Fw.pf))))).enter R ?_ ?_ rfl
 ·intro x hx
  simp only [List.mem_cons,List.not_mem_nil,or_false] at hx
  rcases hx with rfl|rfl
  ·exact o0
  ·exact ok_noAddr _ _ _ rfl
 ·show (#[Vm.ren φ κ (.slice (some ⟨n0 + 1,0,none⟩) n0 c0),.agg #[Vm.ren φ κ (.int .u16 i1),Vm.ren φ κ (.int .u16 i2)]]:Array Value) = _
  simp only [e0,ren_noAddr _ _ (Value.int .u16 i1) rfl,ren_noAddr _ _ (Value.int .u16 i2) rfl]
set_option maxRecDepth 100000 in
theorem rf_lifted (os : Os) (started : os.Started) (H : Type) (enc : TypeId × Value → H) :
    ReturnsInHanded {} Tryd.checked os 11 .any (fun w args=>(Rows.recordFindsSpec.pre enc Tryd.prog Tryd.f11 [] false w args∧laidMetH Tryd.prog laidR w)∧sizedMet enc Tryd.prog Tryd.f11 (OpenSpec.ofChange Rows.recordFindsSpec) false w args) (Rows.recordFindsSpec.post enc Tryd.prog Tryd.f11 false true false false):=by
 refine returnsInHanded_of_change_and (C:=Tryd.checked) (X:=fun w _=>laidMetH Tryd.prog laidR w) (fun _ _ _ hh h=>h.of_heap hh) rf_own started (by kernel_rfl) Tryd.func11
  (ChangeSpec.witness_shaped (enc:=enc) (C:=Tryd.checked) (os:=os) (X:=fun w _=>laidMetH Tryd.prog laidR w) false (World.doorLaid Tryd.prog 400 os) #[.slice none 0 0,.agg #[.int .u16 0,.int .u16 0]] 8 rfl (World.shaped_of_RefB (by kernel_rfl) (by kernel_rfl)) (by kernel_rfl) (by kernel_rfl) (by kernel_rfl) (door_met os _)) ?_
 intro W base args ds gs before hval0 hW _ _ hL _
 have hval : ∀ (j:Nat) t v,Tryd.f11.params[j]? = some t→args[j]? = some v→Value.okWide Tryd.prog W .any base t v:=hval0
 have hW':=hW
 obtain ⟨p,q,hA0,hV,rfl,hfz,hnd⟩:=hW
 have hA:DataW.TrodAll enc Tryd.prog W 0 (fun _=>true) true Tryd.f11.params.toList args.toList ds p:=hA0
 rw [Tryd.params11] at hA hval
 obtain ⟨v0,vs0,d0,ds0,p0,q0,hargs,rfl,rfl,g0,r0⟩:=trodAll_cons hA
 obtain ⟨v1,vs1,d1,ds1,p1,q1,rfl,rfl,rfl,g1,r1⟩:=trodAll_cons r0
 obtain ⟨rfl,rfl,rfl⟩:=trodAll_nil r1
 obtain rfl:args = #[v0,v1]:=by cases args; simp_all
 obtain ⟨rfl,rfl⟩:=trodVars_none hV
 have k0:=g0
 have lt0 : ∀ x∈p0,x.block < W.heap.size:=by obtain ⟨m,hm⟩:=k0; exact DataW.trod_lt m _ _ _ hm
 have k1:=g1
 have lt1 : ∀ x∈p1,x.block < W.heap.size:=by obtain ⟨m,hm⟩:=k1; exact DataW.trod_lt m _ _ _ hm
 obtain ⟨A1,n1,c1,rfl⟩:=okWide_slice Tryd.underlying67 (hval 0 67 v0 rfl rfl)
 obtain ⟨f0,hf0⟩:=g0
 obtain ⟨A0,n0,c0,fs,he0,hn0,hc0,hr0,w0⟩:=frames_of_trod (ti:=0) (t:=67) mkB mkB_enc mkB_wf Tryd.underlying67 Tryd.underlying30 (by kernel_rfl) rfl rfl (by kernel_rfl) (by kernel_rfl) u_int (by kernel_rfl) Tryd.underlying22 u_u8 (by kernel_rfl) (by kernel_rfl) (by simpa [Value.cells] using hf0)
 injection he0 with x1 x2 x3
 subst x1 x2 x3
 obtain ⟨cs1,rfl,hz1⟩:=okWide_struct Tryd.underlying77 (hval 1 77 v1 rfl rfl)
 obtain ⟨cl1⟩:=cs1
 obtain ⟨f1,hf1⟩:=g1
 have L1:=leaves_spec 9 77 _ (show leaves Tryd.prog 9 77 = some [75,75] by kernel_rfl) f1 _ _ hf1
 have hcl1:cl1.length = 2:=by
  rw [show Tryd.prog.cellsOf 77 = 2 by kernel_rfl] at hz1
  simpa using hz1
 obtain ⟨i1,hi1,hw1⟩:=(L1 0 _ rfl).int u_u16
 obtain ⟨i2,hi2,hw2⟩:=(L1 1 _ rfl).int u_u16
 simp only [Value.cells] at hi1 hi2
 have b1:0≤i1∧i1≤65535:=by simp [Lit.wf,IntKind.min,IntKind.max,IntKind.signed,IntKind.bits] at hw1; omega
 have b2:0≤i2∧i2≤65535:=by simp [Lit.wf,IntKind.min,IntKind.max,IntKind.signed,IntKind.bits] at hw2; omega
 have hcs1:=rf_list2 hcl1 hi1 hi2
 subst hcs1
 clear hA0 hval0
 refine (rf_w _ _ _ fs i1 i2 W (tab_of_laid hL) hn0 hr0 w0 b1 b2).mono fun e W' ⟨he,bel⟩=>?_
 subst he
 exact ⟨_,rfl,_,_,_,[],_,[],hW',trodAll_mk1 (shut_bool u_bool _),(trodAll_cons_mk (Below.trod rf_laidOut (by kernel_rfl) (of_decide_eq_true (by kernel_rfl)) k0 bel lt0) (trodAll_cons_mk (Below.trod rf_laidOut (by kernel_rfl) (of_decide_eq_true (by kernel_rfl)) k1 bel lt1) trodAll_mk0)),rfl,bel.frame _,fun h=>by cases h⟩
theorem rf_over:Rows.recordFindsRow.holds Tryd.pinned (OpenSpec.ofChange Rows.recordFindsSpec) :=
 OpenClaim.holds_of_wide 11 Tryd.f11 rfl rfl rfl rfl rfl rfl rfl ⟨rfl,rfl,rfl,rfl,rfl⟩ rfl rfl rfl rfl rfl (by kernel_rfl) Tryd.func11 (by kernel_rfl)
  (of_decide_eq_true (by kernel_rfl)) (by unfold Func.isWrapper; first|(rw [if_pos (by decide +kernel)]; kernel_rfl)|(rw [if_neg (by decide +kernel)]; exact ⟨rfl,rfl⟩))
  (fun os started H enc _=>rf_lifted os started H enc)
theorem recordFinds_holds:Rows.RecordFindsCardSaid :=
 Claim7.holds_tied_plain_at .later [] [.sentinel,.data] true (true,"e87fbf8d0569de18fdda475ebe8eff6b1cab71c00a2475e5fe16bbd14d38446e") true
  rf_over (fun _ h=>by cases h) (by kernel_rfl) (fun _ h=>by cases h) recordFinds_row_tie rfl ⟨rfl,rfl⟩ (by kernel_rfl) rfl
  (fun f fn hf hfn=>by
   obtain rfl:f = 11:=Option.some.inj ((show Tryd.prog.funcNamed "boule/boulelaw06.RecordFinds" = some 11 by kernel_rfl).symm.trans hf) |>.symm
   obtain rfl:fn = Tryd.f11:=(Option.some.inj (Tryd.func11.symm.trans hfn)).symm
   exact ⟨by kernel_rfl,fun j t ht=>by
    rw [Tryd.params11] at ht
    have hm:t∈[67,77]:=by simpa using Array.mem_of_getElem? ht
    have hall:([67,77].all fun u=>!Tryd.prog.wantsStandIn u) = true:=by kernel_rfl
    exact (show Tryd.prog.wantsStandIn t = false by simpa using List.all_eq_true.1 hall t hm)⟩)
  (by kernel_rfl)
end Go.Proofs.YtgjokhodccacoaaDoor
