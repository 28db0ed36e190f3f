import Derived.Test.YtgjokhodccacoaaDoorSRecI7
import Derived.Test.YtgjokhodccacoaaDoorSRecI8
import Derived.Test.YtgjokhodccacoaaDoorSMe
import Derived.Test.YtgjokhodccacoaaDoorSRecLaid
import Derived.Test.YtgjokhodccacoaaDoorTie
import Derived.Test.YtgjokhodccacoaaDoorCards
import Derived.SevenTiedAt
import Derived.Test.YtgjokhodccacoaaDoorRows
import Derived.Test.YtgjokhodccacoaaDoorSOpn
import Derived.WalkKit
import Derived.ProofKit
import Derived.OpenShut
import Derived.ShutString
import Derived.ChangeOld
import Derived.Below
set_option linter.unusedSimpArgs false
set_option linter.unusedVariables false
namespace Go.Proofs.YtgjokhodccacoaaDoor
open Go.ChangeShapes Go.WideShapes Go.ChangeAt Go.RowKit Go.Vm
theorem rq_own:ownKnob Tryd.prog.godebug = none:=by kernel_rfl
theorem rq_laidOut:laidOutB Tryd.prog = true:=by kernel_rfl
theorem u_u8:Tryd.prog.underlying 5 = some (.int .u8):=by kernel_rfl
theorem u_bool:Tryd.prog.underlying 4 = some .bool:=by kernel_rfl
def mkB (l:List Int):Int:=l.getD 0 0
theorem mkB_enc (l:List Int) (h:l.length = 1):eB (mkB l) = l.map (Value.int .u8):=by
 match l,h with
 | [_],_=>rfl
theorem mkB_wf (l:List Int) (h:l.length = 1) (hw : ∀ z∈l,(Lit.int .u8 z).wf = true):0≤mkB l∧mkB l≤255:=by
 match l,h,hw with
 | [a],_,hw =>
  have:=hw a (by simp)
  simp [Lit.wf,IntKind.min,IntKind.max,IntKind.signed,IntKind.bits] at this
  show 0≤a∧a≤255
  omega
theorem rq_w (A0 : Option Addr) (n0 c0 : Nat) (fs : List Pw) (W : World) (ht : Tab W) (hn0 : fs.length = n0) (r0 : Row W A0 n0 c0 (pwCells fs)) (w0 : ∀ f ∈ fs, PwOK W f) :
    Calls Tryd.prog 9 #[.slice A0 n0 c0] W fun e W'=>e = .returned (.bool true)∧Below W.heap.size W W':=by
 obtain ⟨φ,κ,R,e0,o0⟩:=pbs_entry ht w0 r0 hn0
 refine (streams_c n0 c0 (fs.map Pw.pb) (by rw [List.length_map]; exact hn0) (fun f hf=>by
  obtain ⟨g,hg,rfl⟩:=List.mem_map.1 hf
  exact (w0 g hg).isb):Fc Tryd.prog 9 [.slice (some ⟨n0 + 1,0,none⟩) n0 c0] (Hp (n0 + 2) (pbMem (fs.map Pw.pb))) (.bool true) (Hp (n0 + 2) (pbMem (fs.map Pw.pb)))).enter R ?_ ?_ rfl
 ·intro x hx
  simp only [List.mem_cons,List.not_mem_nil,or_false] at hx
  rcases hx with rfl
  exact o0
 ·show (#[Vm.ren φ κ (.slice (some ⟨n0 + 1,0,none⟩) n0 c0)]:Array Value) = _
  simp only [e0]
set_option maxRecDepth 100000 in
theorem rq_lifted (os : Os) (started : os.Started) (H : Type) (enc : TypeId × Value → H) :
    ReturnsInHanded {} Tryd.checked os 9 .any (fun w args=>(Rows.recordStreamsSpec.pre enc Tryd.prog Tryd.f9 [] false w args∧laidMetH Tryd.prog laidR w)∧sizedMet enc Tryd.prog Tryd.f9 (OpenSpec.ofChange Rows.recordStreamsSpec) false w args) (Rows.recordStreamsSpec.post enc Tryd.prog Tryd.f9 false true false false):=by
 refine returnsInHanded_of_change_and (C:=Tryd.checked) (X:=fun w _=>laidMetH Tryd.prog laidR w) (fun _ _ _ hh h=>h.of_heap hh) rq_own started (by kernel_rfl) Tryd.func9
  (ChangeSpec.witness_shaped (enc:=enc) (C:=Tryd.checked) (os:=os) (X:=fun w _=>laidMetH Tryd.prog laidR w) false (World.doorLaid Tryd.prog 400 os) #[.slice none 0 0] 8 rfl (World.shaped_of_RefB (by kernel_rfl) (by kernel_rfl)) (by kernel_rfl) (by kernel_rfl) (by kernel_rfl) (door_met os _)) ?_
 intro W base args ds gs before hval0 hW _ _ hL _
 have hval : ∀ (j:Nat) t v,Tryd.f9.params[j]? = some t→args[j]? = some v→Value.okWide Tryd.prog W .any base t v:=hval0
 have hW':=hW
 obtain ⟨p,q,hA0,hV,rfl,hfz,hnd⟩:=hW
 have hA:DataW.TrodAll enc Tryd.prog W 0 (fun _=>true) true Tryd.f9.params.toList args.toList ds p:=hA0
 rw [Tryd.params9] at hA hval
 obtain ⟨v0,vs0,d0,ds0,p0,q0,hargs,rfl,rfl,g0,r0⟩:=trodAll_cons hA
 obtain ⟨rfl,rfl,rfl⟩:=trodAll_nil r0
 obtain rfl:args = #[v0]:=by cases args; simp_all
 obtain ⟨rfl,rfl⟩:=trodVars_none hV
 have k0:=g0
 have lt0 : ∀ x∈p0,x.block < W.heap.size:=by obtain ⟨m,hm⟩:=k0; exact DataW.trod_lt m _ _ _ hm
 obtain ⟨A1,n1,c1,rfl⟩:=okWide_slice Tryd.underlying62 (hval 0 62 v0 rfl rfl)
 obtain ⟨f0,hf0⟩:=g0
 obtain ⟨A0,n0,c0,fs,he0,hn0,hc0,hr0,w0⟩:=pbs_of_trod (t:=62) mkB mkB_enc mkB_wf Tryd.underlying62 Tryd.underlying22 (by kernel_rfl) u_u8 (by kernel_rfl) (by kernel_rfl) (by simpa [Value.cells] using hf0)
 injection he0 with x1 x2 x3
 subst x1 x2 x3
 clear hA0 hval0
 refine (rq_w _ _ _ fs W (tab_of_laid hL) hn0 hr0 w0).mono fun e W' ⟨he,bel⟩=>?_
 subst he
 exact ⟨_,rfl,_,_,_,[],_,[],hW',trodAll_mk1 (shut_bool u_bool _),(trodAll_cons_mk (Below.trod rq_laidOut (by kernel_rfl) (of_decide_eq_true (by kernel_rfl)) k0 bel lt0) trodAll_mk0),rfl,bel.frame _,fun h=>by cases h⟩
theorem rq_over:Rows.recordStreamsRow.holds Tryd.pinned (OpenSpec.ofChange Rows.recordStreamsSpec) :=
 OpenClaim.holds_of_wide 9 Tryd.f9 rfl rfl rfl rfl rfl rfl rfl ⟨rfl,rfl,rfl,rfl,rfl⟩ rfl rfl rfl rfl rfl (by kernel_rfl) Tryd.func9 (by kernel_rfl)
  (of_decide_eq_true (by kernel_rfl)) (by unfold Func.isWrapper; first|(rw [if_pos (by decide +kernel)]; kernel_rfl)|(rw [if_neg (by decide +kernel)]; exact ⟨rfl,rfl⟩))
  (fun os started H enc _=>rq_lifted os started H enc)
theorem recordStreams_holds:Rows.RecordStreamsCardSaid :=
 Claim7.holds_tied_plain_at .later [] [.sentinel,.data] true (true,"e87fbf8d0569de18fdda475ebe8eff6b1cab71c00a2475e5fe16bbd14d38446e") true
  rq_over (fun _ h=>by cases h) (by kernel_rfl) (fun _ h=>by cases h) recordStreams_row_tie rfl ⟨rfl,rfl⟩ (by kernel_rfl) rfl
  (fun f fn hf hfn=>by
   obtain rfl:f = 9:=Option.some.inj ((show Tryd.prog.funcNamed "boule/boulelaw06.RecordStreams" = some 9 by kernel_rfl).symm.trans hf) |>.symm
   obtain rfl:fn = Tryd.f9:=(Option.some.inj (Tryd.func9.symm.trans hfn)).symm
   exact ⟨by kernel_rfl,fun j t ht=>by
    rw [Tryd.params9] at ht
    have hm:t∈[62]:=by simpa using Array.mem_of_getElem? ht
    have hall:([62].all fun u=>!Tryd.prog.wantsStandIn u) = true:=by kernel_rfl
    exact (show Tryd.prog.wantsStandIn t = false by simpa using List.all_eq_true.1 hall t hm)⟩)
  (by kernel_rfl)
end Go.Proofs.YtgjokhodccacoaaDoor
